/-
  ref10.Append behind any bytes.
-/
import Derived.Test.YtacjiocffbgkkaaGreatRtA
import Derived.Test.YtacjiocffbgkkaaGreatSegH
namespace Go.Proofs.YtacjiocffbgkkaaGreat
open Go.RowKit Go.Lib Go.IntWalk

def RApp (r : List UInt8) (c : Int) (w0 : World) (e : Ending) (w : World) : Prop := ∃ v, e = .returned (.tuple #[v, .int .i64 c]) ∧ OwnB w w0.heap.size v r ∧ Below w0.heap.size w0 w
set_option maxHeartbeats 2000000 in
theorem tappend_long (va vb : Value) (body : List UInt8) (F : Nat → Prop) (w : World) (hb : RdB w F vb body) (hlong : ¬ body.length ≤ 1048576) :
    Calls Tryz.prog 35 #[va, vb] w (RApp [] 5 w) := by
  obtain ⟨B, d, rfl, b1, b2, b3⟩ := hb.open_
  have q : (1048576 : Int) < (body.length : Int) := by omega
  go_enter Tryz.func35, Tryz.ntmps35
  go_wp2_with fail
  go_ret2
  exact ⟨_, rfl, World.ownsRow_nil _ _ _ _, Below.refl _ _⟩

theorem own_emptyB (w : World) (base : Nat) (hb : base ≤ w.heap.size) : OwnB (w.alloc (.cells #[] 5)) base (.slice (some ⟨w.heap.size, 0, none⟩) 0 0) [] := own_empty w base 5 1 hb
theorem RdB.len {w : World} {F : Nat → Prop} {v : Value} {l : List UInt8} (h : RdB w F v l) : ∃ A c, v = .slice A l.length c := by
  obtain ⟨A, c, rfl, _⟩ := h.open_
  exact ⟨A, c, rfl⟩
set_option maxRecDepth 100000 in
set_option maxHeartbeats 8000000 in
theorem tappendG_any (va vb : Value) (l body : List UInt8) (w : World) (ha : RdB w (· < w.heap.size) va l) (hb : RdB w (· < w.heap.size) vb body) (h : body.length ≤ 1048576) (hl : l.length ≤ 109951162777600) :
    Calls Tryz.prog 35 #[va, vb] w (RApp (l ++ frm body) 0 w) := by
  obtain ⟨A, a, rfl, a1, a2, a3⟩ := ha.open_
  obtain ⟨B, d, rfl, b1, b2, b3⟩ := hb.open_
  have HA := Lib.hid ha
  have HB := Lib.hid hb
  clear a3 b3 ha hb
  have q : ¬ (1048576 : Int) < (body.length : Int) := by omega
  have hcv : IntKind.u32.wrap (body.length : Int) = (body.length : Int) := by rw [wrap_u32]; omega
  have CF := Lib.hid (tfour_any body.length w (by omega))
  have HSZ : Hid (frm body = be4 body.length ++ be4 (crcSum (be4 body.length) body) ++ body) := Lib.hid (by simp [frm])
  have HRS : Hid (rSum (be4 body.length ++ body) = crcSum (be4 body.length) body) := Lib.hid (rSum_append _ _)
  have h4 : (be4 body.length).length = 4 := rfl
  generalize frm body = fr at *
  generalize hsz : be4 body.length = sz at *
  clear hsz
  go_enter Tryz.func35, Tryz.ntmps35
  go_wp2_with fail
  (with_reducible refine CF.out.mono ?_)
  rintro e w1 ⟨vs, rfl, hS, hb1⟩
  clear CF
  have hs1 := hb1.size
  obtain ⟨As, cs, rfl, s1, s2, s3⟩ := hS.rd.open_
  clear s3
  have HS1 := Lib.hid hS.rd
  have HB1 := Lib.hid hb1
  have HE0 := Lib.hid (own_emptyB w1 w1.heap.size (Nat.le_refl _))
  have HL1 : Hid (RdB (w1.alloc (.cells #[] 5)) (· < w.heap.size) (.slice A l.length a) l) := Lib.hid (Rd.keep HA.out (fun b hb => (Below.heap_alloc w1 _ b (by have : b < w.heap.size := hb; omega)).trans (hb1.block b hb)))
  clear hS hb1
  obtain ⟨M1, hM1⟩ : ∃ M1, M1 = l ++ sz := ⟨_, rfl⟩
  obtain ⟨M2, hM2⟩ : ∃ M2, M2 = sz ++ body := ⟨_, rfl⟩
  have m1 : M1.length ≤ l.length + 4 := by rw [hM1, List.length_append]; omega
  have m2 : M2.length ≤ 1048580 := by rw [hM2, List.length_append]; omega
  have HM1 := Lib.hid hM1
  have HM2 := Lib.hid hM2
  have H4 := Lib.hid h4
  clear hM1 hM2
  have h4' : sz.length ≤ 4 := by omega
  clear h4
  go_wp2_with (first | (at_builtin; refine wpList_append_b rfl (.tmp 15) (.tmp 16) rfl w1.heap.size (.slice (some ⟨w1.heap.size, 0, none⟩) 0 0) [] rfl HE0.out (· < w.heap.size) _ l rfl HL1.out (by simp; omega) (by simp) ?_; intro vA wA hA hbA hgA _; rw [List.nil_append] at hA; obtain ⟨AA, cA, rfl, _, _, _⟩ := Rd.open_ (Rd.of_own hA); have HbA1 : Hid (Below w1.heap.size w1 wA) := Lib.hid ((Below.of_alloc _).trans hbA); have hsA := HbA1.out.size; have HSA : Hid (RdB wA (· < w1.heap.size) (.slice As sz.length cs) sz) := Lib.hid (Rd.keep HS1.out (fun b hb => HbA1.out.block b hb)); have HOA := Lib.hid hA; clear hA hbA hgA) | (at_builtin; refine wpList_append_b rfl (.tmp 17) (.tmp 18) rfl w1.heap.size (.slice AA l.length cA) l rfl HOA.out (· < w1.heap.size) _ sz rfl HSA.out (by omega) (by omega) ?_; intro vB wB hO hbB hgB _; rw [← HM1.out] at hO; obtain ⟨AB, cB, rfl, _, _, _⟩ := Rd.open_ (Rd.of_own hO); have HbB1 : Hid (Below w1.heap.size w1 wB) := Lib.hid (HbA1.out.trans hbB); have hsB := HbB1.out.size; have HE2 := Lib.hid (own_emptyB wB wB.heap.size (Nat.le_refl _)); have HSB : Hid (RdB (wB.alloc (.cells #[] 5)) (· < w1.heap.size) (.slice As sz.length cs) sz) := Lib.hid (Rd.keep HS1.out (fun b hb => (Below.heap_alloc wB _ b (by have : b < w1.heap.size := hb; omega)).trans (HbB1.out.block b hb))); have HOB := Lib.hid hO; clear hO hbB hgB) | (at_builtin; refine wpList_append_b rfl (.tmp 21) (.tmp 22) rfl wB.heap.size (.slice (some ⟨wB.heap.size, 0, none⟩) 0 0) [] rfl HE2.out (· < w1.heap.size) _ sz rfl HSB.out (by simp; omega) (by simp) ?_; intro vC wC hC hbC hgC _; rw [List.nil_append] at hC; obtain ⟨AC, cC, rfl, _, _, _⟩ := Rd.open_ (Rd.of_own hC); have HbC1 : Hid (Below wB.heap.size wB wC) := Lib.hid ((Below.of_alloc _).trans hbC); have hsC := HbC1.out.size; have HbdC : Hid (RdB wC (· < w.heap.size) (.slice B body.length d) body) := Lib.hid (Rd.keep HB.out (fun b hb => (HbC1.out.block b (by have : b < w.heap.size := hb; omega)).trans ((HbB1.out.block b (by have : b < w.heap.size := hb; omega)).trans (HB1.out.block b hb)))); have HOC := Lib.hid hC; clear hC hbC hgC) | (at_builtin; refine wpList_append_b rfl (.tmp 23) (.tmp 24) rfl wB.heap.size (.slice AC sz.length cC) sz rfl HOC.out (· < w.heap.size) _ body rfl HbdC.out (by omega) (by omega) ?_; intro vD wD hD hbD hgD _; rw [← HM2.out] at hD; obtain ⟨AD, cD, rfl, _, _, _⟩ := Rd.open_ (Rd.of_own hD); have HbD1 : Hid (Below wB.heap.size wB wD) := Lib.hid (HbC1.out.trans hbD); have hsD := HbD1.out.size; have HOD := Lib.hid hD; clear hD hbD hgD))
  have HRS2 : Hid (rSum M2 = crcSum sz body) := Lib.hid (by rw [HM2.out]; exact HRS.out)
  (with_reducible refine (tsum_any _ _ M2 wD HOD.out.rd).mono ?_)
  rintro e wD' ⟨he, rfl⟩
  rw [HRS2.out] at he
  subst he
  have hcl : crcSum sz body < 4294967296 := by unfold crcSum; omega
  generalize crcSum sz body = cv at *
  go_wp2_with fail
  (with_reducible refine (tfour_any cv wD hcl).mono ?_)
  rintro e w5 ⟨v5, rfl, hO5', hb5⟩
  have HB5 : Hid (Below wB.heap.size wB w5) := Lib.hid (HbD1.out.trans (hb5.mono HbD1.out.size))
  have hs5 := HB5.out.size
  have HO5 : Hid (OwnB w5 w1.heap.size (.slice AB M1.length cB) M1) := Lib.hid (own_below HOB.out HB5.out)
  have hc4 : (be4 cv).length = 4 := rfl
  generalize be4 cv = cr at *
  obtain ⟨A5, c5, rfl, _, _, _⟩ := hO5'.rd.open_
  have HR5 := Lib.hid hO5'.rd
  obtain ⟨M3, hM3⟩ : ∃ M3, M3 = M1 ++ cr := ⟨_, rfl⟩
  have m3 : M3.length ≤ M1.length + 4 := by rw [hM3, List.length_append]; omega
  have HM3 := Lib.hid hM3
  have hc4' : cr.length ≤ 4 := by omega
  clear hM3 hc4 hO5' hb5
  go_wp2_with (first | (at_builtin; refine wpList_append_b rfl (.tmp 20) (.tmp 27) rfl w1.heap.size (.slice AB M1.length cB) M1 rfl HO5.out (· < w5.heap.size) _ cr rfl HR5.out (by omega) (by omega) ?_; intro vE wE hE hbE hgE _; rw [← HM3.out] at hE; obtain ⟨AE, cE, rfl, _, _, _⟩ := Rd.open_ (Rd.of_own hE); have HbE1 : Hid (Below w1.heap.size w1 wE) := Lib.hid ((HbB1.out.trans (HB5.out.mono HbB1.out.size)).trans hbE); have hsE := HbE1.out.size; have HbdE : Hid (RdB wE (· < w.heap.size) (.slice B body.length d) body) := Lib.hid (Rd.keep HB.out (fun b hb => (HbE1.out.block b (by have : b < w.heap.size := hb; omega)).trans (HB1.out.block b hb))); have HOE := Lib.hid hE; clear hE hbE hgE) | (at_builtin; refine wpList_append_b rfl (.tmp 29) (.tmp 30) rfl w1.heap.size (.slice AE M3.length cE) M3 rfl HOE.out (· < w.heap.size) _ body rfl HbdE.out (by omega) (by omega) ?_; intro vF wF hF hbF hgF _; have HOF := Lib.hid hF; have HbF1 : Hid (Below w1.heap.size w1 wF) := Lib.hid (HbE1.out.trans hbF); clear hF hbF hgF))
  go_ret2
  refine ⟨_, rfl, ?_, HB1.out.trans (HbF1.out.mono hs1)⟩
  have e1 := OwnB.base HOF.out hs1
  rw [HM3.out, HM1.out] at e1
  rw [HSZ.out]
  have e2 : l ++ sz ++ cr ++ body = l ++ (sz ++ cr ++ body) := by simp
  rw [← e2]
  exact e1
end Go.Proofs.YtacjiocffbgkkaaGreat
