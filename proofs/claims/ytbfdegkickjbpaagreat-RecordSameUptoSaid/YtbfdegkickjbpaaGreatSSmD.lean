/-
 SmD
-/
import Derived.Test.YtbfdegkickjbpaaGreatSSmB
import Derived.Test.YtbfdegkickjbpaaGreatSSmC
namespace Go.Proofs.YtbfdegkickjbpaaGreat
open Go.RowKit Go.Lib Go.IntWalk Go.Sort Go.Shelf
set_option maxRecDepth 1000000 in
set_option maxHeartbeats 8000000 in
theorem eqfFor_any (v u : Value) (l m : List RFor) (w : World) (hv : RdE 2 RFor.enc w (· < w.heap.size) v l) (hu : RdE 2 RFor.enc w (· < w.heap.size) u m)
  (KC : ∀ x ∈ l, ∀ y ∈ m, ∀ V, Below w.heap.size w V → Calls Tryz.prog 229 #[.agg (RFor.enc x).toArray, .agg (RFor.enc y).toArray] V fun e w' => e = .returned (.bool (sFor x y)) ∧ Below V.heap.size V w') :
  Calls Tryz.prog 228 #[v, u, .func (.func 229) #[] #[]] w fun e w' => e = .returned (.bool (sameL sFor l m)) ∧ Below w.heap.size w w' := by
 obtain ⟨A, c, rfl, a1, a2, a3⟩ := Rd.open_ (show Rd w _ 2 v l.length (l.flatMap RFor.enc) from hv)
 obtain ⟨A', c', rfl, b1, b2, b3⟩ := Rd.open_ (show Rd w _ 2 u m.length (m.flatMap RFor.enc) from hu)
 unfold maxLen at a2 b2
 have HV := Lib.hid hv
 have HU := Lib.hid hu
 have HKC := Lib.hid KC
 obtain ⟨res, hres⟩ : ∃ r, r = sameL sFor l m := ⟨_, rfl⟩
 rw [← hres]
 have HRES := Lib.hid hres
 clear hv hu KC hres a3 b3
 go_enter Tryz.func228, Tryz.ntmps228
 by_cases hlen : l.length = m.length
 case neg =>
  have HE : Hid (res = false) := Lib.hid (by rw [HRES.out]; exact sameL_len hlen)
  have hlen2 : ¬ (l.length : Int) = (m.length : Int) := by omega
  have hlen3 : ((l.length : Int) != (m.length : Int)) = true := by simpa using hlen2
  go_wp2_with fail
  go_ret
  exact ⟨by rw [HE.out] <;> rfl, Below.refl _ _⟩
 case pos =>
 have hlen2 : (l.length : Int) = (m.length : Int) := by omega
 have hlen3 : ((l.length : Int) != (m.length : Int)) = false := by simpa using hlen2
 have HLEN := Lib.hid hlen
 clear hlen hlen2
 go_wp2_with fail
 clear hlen3
 go_loopw [17] (fun i wr => ∃ k : Nat, i = .int .i64 (k : Int) ∧ k ≤ l.length ∧ Hid (sameL sFor (l.drop k) (m.drop k) = res) ∧ Hid (Below w.heap.size w wr)) (fun i _ => l.length - (intOf i).toNat)
 case atStart => exact ⟨0, rfl, Nat.zero_le _, Lib.hid HRES.out.symm, Lib.hid (Below.refl _ _)⟩
 case round =>
  obtain ⟨k, rfl, hk, HG, HB⟩ := hrel
  obtain ⟨wi, rfl⟩ : ∃ wi : World, wi = wr := ⟨_, rfl⟩
  by_cases hlt : k < l.length
  case neg =>
   have hlt3 : ¬ (k : Int) < (l.length : Int) := by omega
   have HE : Hid (res = true) := Lib.hid (by have := HLEN.out; rw [← HG.out]; exact sameL_end (by omega) (by omega))
   go_wp2_with fail
   go_ret
   exact ⟨by rw [HE.out] <;> rfl, HB.out⟩
  case pos =>
   have hlt' : k < m.length := by have := HLEN.out; omega
   have hlt3 : (k : Int) < (l.length : Int) := by omega
   have hlt4 : (k : Int) < (m.length : Int) := by omega
   obtain ⟨b, off, rfl, hF, hcl⟩ := RdE.at_ (K := 2) (enc := RFor.enc) (fun _ => rfl) (by omega) (HV.out.below HB.out) hlt
   obtain ⟨b', off', rfl, hF', hcl'⟩ := RdE.at_ (K := 2) (enc := RFor.enc) (fun _ => rfl) (by omega) (HU.out.below HB.out) hlt'
   have hcx := hcl k hlt
   have hcy := hcl' k hlt'
   have hg := HG.out
   rw [sameL_at hlt hlt'] at hg
   have KK := HKC.out _ (List.getElem_mem hlt) _ (List.getElem_mem hlt')
   obtain ⟨x, hx⟩ : ∃ x, x = l[k] := ⟨_, rfl⟩
   obtain ⟨y, hy⟩ : ∃ y, y = m[k] := ⟨_, rfl⟩
   rw [← hx] at hcx hg KK
   rw [← hy] at hcy hg KK
   obtain ⟨bo, hbo⟩ : ∃ bo, bo = sFor x y := ⟨_, rfl⟩
   rw [← hbo] at hg KK
   have HG2 := Lib.hid hg
   clear hx hy hcl hcl' hbo hg HG
   obtain ⟨xA, xc, xl, xt⟩ := x
   obtain ⟨yA, yc, yl, yt⟩ := y
   have g0 : wi.cell? ⟨b, off + k * 2, none⟩ = some (.slice xA xl.length xc) := hcx 0 _ (by decide) rfl
   have g1 : wi.cell? ⟨b, off + k * 2 + 1, none⟩ = some (.string xt) := hcx 1 _ (by decide) rfl
   have i0 : wi.cell? ⟨b', off' + k * 2, none⟩ = some (.slice yA yl.length yc) := hcy 0 _ (by decide) rfl
   have i1 : wi.cell? ⟨b', off' + k * 2 + 1, none⟩ = some (.string yt) := hcy 1 _ (by decide) rfl
   clear hcx hcy
   obtain ⟨W1, hW1⟩ : ∃ W1, W1 = wi.alloc (.cells #[.slice xA xl.length xc, .string xt] 278) := ⟨_, rfl⟩
   have hb1 : Below wi.heap.size wi W1 := by rw [hW1]; exact Below.of_alloc _
   have hT1 : W1.heap[wi.heap.size]? = some (.cells #[.slice xA xl.length xc, .string xt] 278 (0, 0)) := by rw [hW1]; exact heap_alloc_new _ _
   have h0 := (World.cell?_of_block (hb1.block _ hF')).trans i0
   have h1 := (World.cell?_of_block (hb1.block _ hF')).trans i1
   have HW1 := Lib.hid hW1
   clear i0 i1 hW1
   obtain ⟨W2, hW2⟩ : ∃ W2, W2 = W1.alloc (.cells #[.slice yA yl.length yc, .string yt] 278) := ⟨_, rfl⟩
   have hb2 : Below W1.heap.size W1 W2 := by rw [hW2]; exact Below.of_alloc _
   have hT2 : W2.heap[W1.heap.size]? = some (.cells #[.slice yA yl.length yc, .string yt] 278 (0, 0)) := by rw [hW2]; exact heap_alloc_new _ _
   have hT3 := (hb2.block _ (Array.getElem?_eq_some_iff.1 hT1).1).trans hT1
   have c0 : W2.cell? ⟨wi.heap.size, 0, none⟩ = some (.slice xA xl.length xc) := cell_of_row W2 _ 0 _ _ _ hT3
   have c1 : W2.cell? ⟨wi.heap.size, 1, none⟩ = some (.string xt) := cell_of_row W2 _ 1 _ _ _ hT3
   have d0 : W2.cell? ⟨W1.heap.size, 0, none⟩ = some (.slice yA yl.length yc) := cell_of_row W2 _ 0 _ _ _ hT2
   have d1 : W2.cell? ⟨W1.heap.size, 1, none⟩ = some (.string yt) := cell_of_row W2 _ 1 _ _ _ hT2
   have HW2 := Lib.hid hW2
   have hbx : Below wi.heap.size wi W2 := hb1.trans (hb2.mono hb1.size)
   have KX : Calls Tryz.prog 229 #[.agg #[.slice xA xl.length xc, .string xt], .agg #[.slice yA yl.length yc, .string yt]] W2 (fun e w' => e = .returned (.bool bo) ∧ Below W2.heap.size W2 w') := KK _ (HB.out.trans (hbx.mono HB.out.size))
   have HBX : Hid (Below w.heap.size w W2) := Lib.hid (HB.out.trans (hbx.mono HB.out.size))
   have HKX := Lib.hid KX
   have HH := Lib.hid (And.intro h0 (h1))
   have HC := Lib.hid (And.intro c0 (c1))
   have HD := Lib.hid (And.intro d0 (d1))
   clear KK hbx hW2 hT1 hT2 hT3 hb1 hb2 KX h0 c0 d0 h1 c1 d1
   go_upto_region 6 with (fail)
   rw [← HW1.out]
   clear g0 g1
   obtain ⟨h0, h1⟩ := HH.out
   go_upto_region 7 with (fail)
   rw [← HW2.out]
   clear h0 h1 HH
   obtain ⟨c0, c1⟩ := HC.out
   obtain ⟨d0, d1⟩ := HD.out
   go_wp2_with fail
   (with_reducible refine HKX.out.mono ?_)
   rintro _ w2 ⟨rfl, hb2⟩
   have HB2 : Hid (Below w.heap.size w w2) := Lib.hid (HBX.out.trans (hb2.mono HBX.out.size))
   clear hb2 HKX HBX HW1 HW2 HC HD c0 d0 c1 d1
   cases bo
   case false =>
    have HE : Hid (res = false) := Lib.hid (by rw [← HG2.out]; rfl)
    go_wp2_with fail
    go_ret
    exact ⟨by rw [HE.out] <;> rfl, HB2.out⟩
   case true =>
    have HN : Hid (sameL sFor (l.drop (k + 1)) (m.drop (k + 1)) = res) := Lib.hid (by rw [← HG2.out]; simp)
    go_wp2_with fail
    go_roundw
    case rel => exact ⟨k + 1, by go_num, hlt, HN, HB2⟩
    case measure => simp [intOf]; omega
set_option maxRecDepth 1000000 in
set_option maxHeartbeats 8000000 in
theorem eqfExp_any (v u : Value) (l m : List RE) (w : World) (hv : RdE 7 RE.enc w (· < w.heap.size) v l) (hu : RdE 7 RE.enc w (· < w.heap.size) u m)
  (KC : ∀ x ∈ l, ∀ y ∈ m, ∀ V, Below w.heap.size w V → Calls Tryz.prog 231 #[.agg (RE.enc x).toArray, .agg (RE.enc y).toArray] V fun e w' => e = .returned (.bool (sX x y)) ∧ Below V.heap.size V w') :
  Calls Tryz.prog 230 #[v, u, .func (.func 231) #[] #[]] w fun e w' => e = .returned (.bool (sameL sX l m)) ∧ Below w.heap.size w w' := by
 obtain ⟨A, c, rfl, a1, a2, a3⟩ := Rd.open_ (show Rd w _ 7 v l.length (l.flatMap RE.enc) from hv)
 obtain ⟨A', c', rfl, b1, b2, b3⟩ := Rd.open_ (show Rd w _ 7 u m.length (m.flatMap RE.enc) from hu)
 unfold maxLen at a2 b2
 have HV := Lib.hid hv
 have HU := Lib.hid hu
 have HKC := Lib.hid KC
 obtain ⟨res, hres⟩ : ∃ r, r = sameL sX l m := ⟨_, rfl⟩
 rw [← hres]
 have HRES := Lib.hid hres
 clear hv hu KC hres a3 b3
 go_enter Tryz.func230, Tryz.ntmps230
 by_cases hlen : l.length = m.length
 case neg =>
  have HE : Hid (res = false) := Lib.hid (by rw [HRES.out]; exact sameL_len hlen)
  have hlen2 : ¬ (l.length : Int) = (m.length : Int) := by omega
  have hlen3 : ((l.length : Int) != (m.length : Int)) = true := by simpa using hlen2
  go_wp2_with fail
  go_ret
  exact ⟨by rw [HE.out] <;> rfl, Below.refl _ _⟩
 case pos =>
 have hlen2 : (l.length : Int) = (m.length : Int) := by omega
 have hlen3 : ((l.length : Int) != (m.length : Int)) = false := by simpa using hlen2
 have HLEN := Lib.hid hlen
 clear hlen hlen2
 go_wp2_with fail
 clear hlen3
 go_loopw [17] (fun i wr => ∃ k : Nat, i = .int .i64 (k : Int) ∧ k ≤ l.length ∧ Hid (sameL sX (l.drop k) (m.drop k) = res) ∧ Hid (Below w.heap.size w wr)) (fun i _ => l.length - (intOf i).toNat)
 case atStart => exact ⟨0, rfl, Nat.zero_le _, Lib.hid HRES.out.symm, Lib.hid (Below.refl _ _)⟩
 case round =>
  obtain ⟨k, rfl, hk, HG, HB⟩ := hrel
  obtain ⟨wi, rfl⟩ : ∃ wi : World, wi = wr := ⟨_, rfl⟩
  by_cases hlt : k < l.length
  case neg =>
   have hlt3 : ¬ (k : Int) < (l.length : Int) := by omega
   have HE : Hid (res = true) := Lib.hid (by have := HLEN.out; rw [← HG.out]; exact sameL_end (by omega) (by omega))
   go_wp2_with fail
   go_ret
   exact ⟨by rw [HE.out] <;> rfl, HB.out⟩
  case pos =>
   have hlt' : k < m.length := by have := HLEN.out; omega
   have hlt3 : (k : Int) < (l.length : Int) := by omega
   have hlt4 : (k : Int) < (m.length : Int) := by omega
   obtain ⟨b, off, rfl, hF, hcl⟩ := RdE.at_ (K := 7) (enc := RE.enc) (fun e => by cases e; rfl) (by omega) (HV.out.below HB.out) hlt
   obtain ⟨b', off', rfl, hF', hcl'⟩ := RdE.at_ (K := 7) (enc := RE.enc) (fun e => by cases e; rfl) (by omega) (HU.out.below HB.out) hlt'
   have hcx := hcl k hlt
   have hcy := hcl' k hlt'
   have hg := HG.out
   rw [sameL_at hlt hlt'] at hg
   have KK := HKC.out _ (List.getElem_mem hlt) _ (List.getElem_mem hlt')
   obtain ⟨x, hx⟩ : ∃ x, x = l[k] := ⟨_, rfl⟩
   obtain ⟨y, hy⟩ : ∃ y, y = m[k] := ⟨_, rfl⟩
   rw [← hx] at hcx hg KK
   rw [← hy] at hcy hg KK
   obtain ⟨bo, hbo⟩ : ∃ bo, bo = sX x y := ⟨_, rfl⟩
   rw [← hbo] at hg KK
   have HG2 := Lib.hid hg
   clear hx hy hcl hcl' hbo hg HG
   obtain ⟨xo, xi, ⟨x1, x2, x3⟩, xn, xA, xc, xas⟩ := x
   obtain ⟨yo, yi, ⟨y1, y2, y3⟩, yn, yA, yc, yas⟩ := y
   have g0 : wi.cell? ⟨b, off + k * 7, none⟩ = some (.int .i64 xo) := hcx 0 _ (by decide) rfl
   have g1 : wi.cell? ⟨b, off + k * 7 + 1, none⟩ = some (.int .i64 xi) := hcx 1 _ (by decide) rfl
   have g2 : wi.cell? ⟨b, off + k * 7 + 2, none⟩ = some (.int .i64 x1) := hcx 2 _ (by decide) rfl
   have g3 : wi.cell? ⟨b, off + k * 7 + 3, none⟩ = some (.int .i64 x2) := hcx 3 _ (by decide) rfl
   have g4 : wi.cell? ⟨b, off + k * 7 + 4, none⟩ = some (.string x3) := hcx 4 _ (by decide) rfl
   have g5 : wi.cell? ⟨b, off + k * 7 + 5, none⟩ = some (.string xn) := hcx 5 _ (by decide) rfl
   have g6 : wi.cell? ⟨b, off + k * 7 + 6, none⟩ = some (.slice xA xas.length xc) := hcx 6 _ (by decide) rfl
   have i0 : wi.cell? ⟨b', off' + k * 7, none⟩ = some (.int .i64 yo) := hcy 0 _ (by decide) rfl
   have i1 : wi.cell? ⟨b', off' + k * 7 + 1, none⟩ = some (.int .i64 yi) := hcy 1 _ (by decide) rfl
   have i2 : wi.cell? ⟨b', off' + k * 7 + 2, none⟩ = some (.int .i64 y1) := hcy 2 _ (by decide) rfl
   have i3 : wi.cell? ⟨b', off' + k * 7 + 3, none⟩ = some (.int .i64 y2) := hcy 3 _ (by decide) rfl
   have i4 : wi.cell? ⟨b', off' + k * 7 + 4, none⟩ = some (.string y3) := hcy 4 _ (by decide) rfl
   have i5 : wi.cell? ⟨b', off' + k * 7 + 5, none⟩ = some (.string yn) := hcy 5 _ (by decide) rfl
   have i6 : wi.cell? ⟨b', off' + k * 7 + 6, none⟩ = some (.slice yA yas.length yc) := hcy 6 _ (by decide) rfl
   clear hcx hcy
   obtain ⟨W1, hW1⟩ : ∃ W1, W1 = wi.alloc (.cells #[.int .i64 xo, .int .i64 xi, .int .i64 x1, .int .i64 x2, .string x3, .string xn, .slice xA xas.length xc] 212) := ⟨_, rfl⟩
   have hb1 : Below wi.heap.size wi W1 := by rw [hW1]; exact Below.of_alloc _
   have hT1 : W1.heap[wi.heap.size]? = some (.cells #[.int .i64 xo, .int .i64 xi, .int .i64 x1, .int .i64 x2, .string x3, .string xn, .slice xA xas.length xc] 212 (0, 0)) := by rw [hW1]; exact heap_alloc_new _ _
   have h0 := (World.cell?_of_block (hb1.block _ hF')).trans i0
   have h1 := (World.cell?_of_block (hb1.block _ hF')).trans i1
   have h2 := (World.cell?_of_block (hb1.block _ hF')).trans i2
   have h3 := (World.cell?_of_block (hb1.block _ hF')).trans i3
   have h4 := (World.cell?_of_block (hb1.block _ hF')).trans i4
   have h5 := (World.cell?_of_block (hb1.block _ hF')).trans i5
   have h6 := (World.cell?_of_block (hb1.block _ hF')).trans i6
   have HW1 := Lib.hid hW1
   clear i0 i1 i2 i3 i4 i5 i6 hW1
   obtain ⟨W2, hW2⟩ : ∃ W2, W2 = W1.alloc (.cells #[.int .i64 yo, .int .i64 yi, .int .i64 y1, .int .i64 y2, .string y3, .string yn, .slice yA yas.length yc] 212) := ⟨_, rfl⟩
   have hb2 : Below W1.heap.size W1 W2 := by rw [hW2]; exact Below.of_alloc _
   have hT2 : W2.heap[W1.heap.size]? = some (.cells #[.int .i64 yo, .int .i64 yi, .int .i64 y1, .int .i64 y2, .string y3, .string yn, .slice yA yas.length yc] 212 (0, 0)) := by rw [hW2]; exact heap_alloc_new _ _
   have hT3 := (hb2.block _ (Array.getElem?_eq_some_iff.1 hT1).1).trans hT1
   have c0 : W2.cell? ⟨wi.heap.size, 0, none⟩ = some (.int .i64 xo) := cell_of_row W2 _ 0 _ _ _ hT3
   have c1 : W2.cell? ⟨wi.heap.size, 1, none⟩ = some (.int .i64 xi) := cell_of_row W2 _ 1 _ _ _ hT3
   have c2 : W2.cell? ⟨wi.heap.size, 2, none⟩ = some (.int .i64 x1) := cell_of_row W2 _ 2 _ _ _ hT3
   have c3 : W2.cell? ⟨wi.heap.size, 3, none⟩ = some (.int .i64 x2) := cell_of_row W2 _ 3 _ _ _ hT3
   have c4 : W2.cell? ⟨wi.heap.size, 4, none⟩ = some (.string x3) := cell_of_row W2 _ 4 _ _ _ hT3
   have c5 : W2.cell? ⟨wi.heap.size, 5, none⟩ = some (.string xn) := cell_of_row W2 _ 5 _ _ _ hT3
   have c6 : W2.cell? ⟨wi.heap.size, 6, none⟩ = some (.slice xA xas.length xc) := cell_of_row W2 _ 6 _ _ _ hT3
   have d0 : W2.cell? ⟨W1.heap.size, 0, none⟩ = some (.int .i64 yo) := cell_of_row W2 _ 0 _ _ _ hT2
   have d1 : W2.cell? ⟨W1.heap.size, 1, none⟩ = some (.int .i64 yi) := cell_of_row W2 _ 1 _ _ _ hT2
   have d2 : W2.cell? ⟨W1.heap.size, 2, none⟩ = some (.int .i64 y1) := cell_of_row W2 _ 2 _ _ _ hT2
   have d3 : W2.cell? ⟨W1.heap.size, 3, none⟩ = some (.int .i64 y2) := cell_of_row W2 _ 3 _ _ _ hT2
   have d4 : W2.cell? ⟨W1.heap.size, 4, none⟩ = some (.string y3) := cell_of_row W2 _ 4 _ _ _ hT2
   have d5 : W2.cell? ⟨W1.heap.size, 5, none⟩ = some (.string yn) := cell_of_row W2 _ 5 _ _ _ hT2
   have d6 : W2.cell? ⟨W1.heap.size, 6, none⟩ = some (.slice yA yas.length yc) := cell_of_row W2 _ 6 _ _ _ hT2
   have HW2 := Lib.hid hW2
   have hbx : Below wi.heap.size wi W2 := hb1.trans (hb2.mono hb1.size)
   have KX : Calls Tryz.prog 231 #[.agg #[.int .i64 xo, .int .i64 xi, .int .i64 x1, .int .i64 x2, .string x3, .string xn, .slice xA xas.length xc], .agg #[.int .i64 yo, .int .i64 yi, .int .i64 y1, .int .i64 y2, .string y3, .string yn, .slice yA yas.length yc]] W2 (fun e w' => e = .returned (.bool bo) ∧ Below W2.heap.size W2 w') := KK _ (HB.out.trans (hbx.mono HB.out.size))
   have HBX : Hid (Below w.heap.size w W2) := Lib.hid (HB.out.trans (hbx.mono HB.out.size))
   have HKX := Lib.hid KX
   have HH := Lib.hid (And.intro h0 (And.intro h1 (And.intro h2 (And.intro h3 (And.intro h4 (And.intro h5 (h6)))))))
   have HC := Lib.hid (And.intro c0 (And.intro c1 (And.intro c2 (And.intro c3 (And.intro c4 (And.intro c5 (c6)))))))
   have HD := Lib.hid (And.intro d0 (And.intro d1 (And.intro d2 (And.intro d3 (And.intro d4 (And.intro d5 (d6)))))))
   clear KK hbx hW2 hT1 hT2 hT3 hb1 hb2 KX h0 c0 d0 h1 c1 d1 h2 c2 d2 h3 c3 d3 h4 c4 d4 h5 c5 d5 h6 c6 d6
   go_upto_region 6 with (fail)
   rw [← HW1.out]
   clear g0 g1 g2 g3 g4 g5 g6
   obtain ⟨h0, h1, h2, h3, h4, h5, h6⟩ := HH.out
   go_upto_region 7 with (fail)
   rw [← HW2.out]
   clear h0 h1 h2 h3 h4 h5 h6 HH
   obtain ⟨c0, c1, c2, c3, c4, c5, c6⟩ := HC.out
   obtain ⟨d0, d1, d2, d3, d4, d5, d6⟩ := HD.out
   go_wp2_with fail
   (with_reducible refine HKX.out.mono ?_)
   rintro _ w2 ⟨rfl, hb2⟩
   have HB2 : Hid (Below w.heap.size w w2) := Lib.hid (HBX.out.trans (hb2.mono HBX.out.size))
   clear hb2 HKX HBX HW1 HW2 HC HD c0 d0 c1 d1 c2 d2 c3 d3 c4 d4 c5 d5 c6 d6
   cases bo
   case false =>
    have HE : Hid (res = false) := Lib.hid (by rw [← HG2.out]; rfl)
    go_wp2_with fail
    go_ret
    exact ⟨by rw [HE.out] <;> rfl, HB2.out⟩
   case true =>
    have HN : Hid (sameL sX (l.drop (k + 1)) (m.drop (k + 1)) = res) := Lib.hid (by rw [← HG2.out]; simp)
    go_wp2_with fail
    go_roundw
    case rel => exact ⟨k + 1, by go_num, hlt, HN, HB2⟩
    case measure => simp [intOf]; omega
set_option maxRecDepth 1000000 in
set_option maxHeartbeats 8000000 in
theorem eqfEnt_any (v u : Value) (l m : List REn) (w : World) (hv : RdE 16 REn.enc w (· < w.heap.size) v l) (hu : RdE 16 REn.enc w (· < w.heap.size) u m)
  (KC : ∀ x ∈ l, ∀ y ∈ m, ∀ V, Below w.heap.size w V → Calls Tryz.prog 88 #[.agg (REn.enc x).toArray, .agg (REn.enc y).toArray] V fun e w' => e = .returned (.bool (sEnt x y)) ∧ Below V.heap.size V w') :
  Calls Tryz.prog 87 #[v, u, .func (.func 88) #[] #[]] w fun e w' => e = .returned (.bool (sameL sEnt l m)) ∧ Below w.heap.size w w' := by
 obtain ⟨A, c, rfl, a1, a2, a3⟩ := Rd.open_ (show Rd w _ 16 v l.length (l.flatMap REn.enc) from hv)
 obtain ⟨A', c', rfl, b1, b2, b3⟩ := Rd.open_ (show Rd w _ 16 u m.length (m.flatMap REn.enc) from hu)
 unfold maxLen at a2 b2
 have HV := Lib.hid hv
 have HU := Lib.hid hu
 have HKC := Lib.hid KC
 obtain ⟨res, hres⟩ : ∃ r, r = sameL sEnt l m := ⟨_, rfl⟩
 rw [← hres]
 have HRES := Lib.hid hres
 clear hv hu KC hres a3 b3
 go_enter Tryz.func87, Tryz.ntmps87
 by_cases hlen : l.length = m.length
 case neg =>
  have HE : Hid (res = false) := Lib.hid (by rw [HRES.out]; exact sameL_len hlen)
  have hlen2 : ¬ (l.length : Int) = (m.length : Int) := by omega
  have hlen3 : ((l.length : Int) != (m.length : Int)) = true := by simpa using hlen2
  go_wp2_with fail
  go_ret
  exact ⟨by rw [HE.out] <;> rfl, Below.refl _ _⟩
 case pos =>
 have hlen2 : (l.length : Int) = (m.length : Int) := by omega
 have hlen3 : ((l.length : Int) != (m.length : Int)) = false := by simpa using hlen2
 have HLEN := Lib.hid hlen
 clear hlen hlen2
 go_wp2_with fail
 clear hlen3
 go_loopw [17] (fun i wr => ∃ k : Nat, i = .int .i64 (k : Int) ∧ k ≤ l.length ∧ Hid (sameL sEnt (l.drop k) (m.drop k) = res) ∧ Hid (Below w.heap.size w wr)) (fun i _ => l.length - (intOf i).toNat)
 case atStart => exact ⟨0, rfl, Nat.zero_le _, Lib.hid HRES.out.symm, Lib.hid (Below.refl _ _)⟩
 case round =>
  obtain ⟨k, rfl, hk, HG, HB⟩ := hrel
  obtain ⟨wi, rfl⟩ : ∃ wi : World, wi = wr := ⟨_, rfl⟩
  by_cases hlt : k < l.length
  case neg =>
   have hlt3 : ¬ (k : Int) < (l.length : Int) := by omega
   have HE : Hid (res = true) := Lib.hid (by have := HLEN.out; rw [← HG.out]; exact sameL_end (by omega) (by omega))
   go_wp2_with fail
   go_ret
   exact ⟨by rw [HE.out] <;> rfl, HB.out⟩
  case pos =>
   have hlt' : k < m.length := by have := HLEN.out; omega
   have hlt3 : (k : Int) < (l.length : Int) := by omega
   have hlt4 : (k : Int) < (m.length : Int) := by omega
   obtain ⟨b, off, rfl, hF, hcl⟩ := RdE.at_ (K := 16) (enc := REn.enc) (fun _ => rfl) (by omega) (HV.out.below HB.out) hlt
   obtain ⟨b', off', rfl, hF', hcl'⟩ := RdE.at_ (K := 16) (enc := REn.enc) (fun _ => rfl) (by omega) (HU.out.below HB.out) hlt'
   have hcx := hcl k hlt
   have hcy := hcl' k hlt'
   have hg := HG.out
   rw [sameL_at hlt hlt'] at hg
   have KK := HKC.out _ (List.getElem_mem hlt) _ (List.getElem_mem hlt')
   obtain ⟨x, hx⟩ : ∃ x, x = l[k] := ⟨_, rfl⟩
   obtain ⟨y, hy⟩ : ∃ y, y = m[k] := ⟨_, rfl⟩
   rw [← hx] at hcx hg KK
   rw [← hy] at hcy hg KK
   obtain ⟨bo, hbo⟩ : ∃ bo, bo = sEnt x y := ⟨_, rfl⟩
   rw [← hbo] at hg KK
   have HG2 := Lib.hid hg
   clear hx hy hcl hcl' hbo hg HG
   obtain ⟨xtm, xtb, ⟨xnm, xcolA, xcolC, xcols, xkeyA, xkeyC, xkey, xforA, xforC, xfors, xchkA, xchkC, xchks⟩, ⟨x1, x2, x3, x4, x5, x6, ⟨x7, x8, x9⟩⟩⟩ := x
   obtain ⟨ytm, ytb, ⟨ynm, ycolA, ycolC, ycols, ykeyA, ykeyC, ykey, yforA, yforC, yfors, ychkA, ychkC, ychks⟩, ⟨y1, y2, y3, y4, y5, y6, ⟨y7, y8, y9⟩⟩⟩ := y
   have g0 : wi.cell? ⟨b, off + k * 16, none⟩ = some (.int .i64 xtm) := hcx 0 _ (by decide) rfl
   have g1 : wi.cell? ⟨b, off + k * 16 + 1, none⟩ = some (.string xtb) := hcx 1 _ (by decide) rfl
   have g2 : wi.cell? ⟨b, off + k * 16 + 2, none⟩ = some (.string xnm) := hcx 2 _ (by decide) rfl
   have g3 : wi.cell? ⟨b, off + k * 16 + 3, none⟩ = some (.slice xcolA xcols.length xcolC) := hcx 3 _ (by decide) rfl
   have g4 : wi.cell? ⟨b, off + k * 16 + 4, none⟩ = some (.slice xkeyA xkey.length xkeyC) := hcx 4 _ (by decide) rfl
   have g5 : wi.cell? ⟨b, off + k * 16 + 5, none⟩ = some (.slice xforA xfors.length xforC) := hcx 5 _ (by decide) rfl
   have g6 : wi.cell? ⟨b, off + k * 16 + 6, none⟩ = some (.slice xchkA xchks.length xchkC) := hcx 6 _ (by decide) rfl
   have g7 : wi.cell? ⟨b, off + k * 16 + 7, none⟩ = some (.int .i64 x1) := hcx 7 _ (by decide) rfl
   have g8 : wi.cell? ⟨b, off + k * 16 + 8, none⟩ = some (.string x2) := hcx 8 _ (by decide) rfl
   have g9 : wi.cell? ⟨b, off + k * 16 + 9, none⟩ = some (.string x3) := hcx 9 _ (by decide) rfl
   have g10 : wi.cell? ⟨b, off + k * 16 + 10, none⟩ = some (.string x4) := hcx 10 _ (by decide) rfl
   have g11 : wi.cell? ⟨b, off + k * 16 + 11, none⟩ = some (.int .i64 x5) := hcx 11 _ (by decide) rfl
   have g12 : wi.cell? ⟨b, off + k * 16 + 12, none⟩ = some (.bool x6) := hcx 12 _ (by decide) rfl
   have g13 : wi.cell? ⟨b, off + k * 16 + 13, none⟩ = some (.int .i64 x7) := hcx 13 _ (by decide) rfl
   have g14 : wi.cell? ⟨b, off + k * 16 + 14, none⟩ = some (.int .i64 x8) := hcx 14 _ (by decide) rfl
   have g15 : wi.cell? ⟨b, off + k * 16 + 15, none⟩ = some (.string x9) := hcx 15 _ (by decide) rfl
   have i0 : wi.cell? ⟨b', off' + k * 16, none⟩ = some (.int .i64 ytm) := hcy 0 _ (by decide) rfl
   have i1 : wi.cell? ⟨b', off' + k * 16 + 1, none⟩ = some (.string ytb) := hcy 1 _ (by decide) rfl
   have i2 : wi.cell? ⟨b', off' + k * 16 + 2, none⟩ = some (.string ynm) := hcy 2 _ (by decide) rfl
   have i3 : wi.cell? ⟨b', off' + k * 16 + 3, none⟩ = some (.slice ycolA ycols.length ycolC) := hcy 3 _ (by decide) rfl
   have i4 : wi.cell? ⟨b', off' + k * 16 + 4, none⟩ = some (.slice ykeyA ykey.length ykeyC) := hcy 4 _ (by decide) rfl
   have i5 : wi.cell? ⟨b', off' + k * 16 + 5, none⟩ = some (.slice yforA yfors.length yforC) := hcy 5 _ (by decide) rfl
   have i6 : wi.cell? ⟨b', off' + k * 16 + 6, none⟩ = some (.slice ychkA ychks.length ychkC) := hcy 6 _ (by decide) rfl
   have i7 : wi.cell? ⟨b', off' + k * 16 + 7, none⟩ = some (.int .i64 y1) := hcy 7 _ (by decide) rfl
   have i8 : wi.cell? ⟨b', off' + k * 16 + 8, none⟩ = some (.string y2) := hcy 8 _ (by decide) rfl
   have i9 : wi.cell? ⟨b', off' + k * 16 + 9, none⟩ = some (.string y3) := hcy 9 _ (by decide) rfl
   have i10 : wi.cell? ⟨b', off' + k * 16 + 10, none⟩ = some (.string y4) := hcy 10 _ (by decide) rfl
   have i11 : wi.cell? ⟨b', off' + k * 16 + 11, none⟩ = some (.int .i64 y5) := hcy 11 _ (by decide) rfl
   have i12 : wi.cell? ⟨b', off' + k * 16 + 12, none⟩ = some (.bool y6) := hcy 12 _ (by decide) rfl
   have i13 : wi.cell? ⟨b', off' + k * 16 + 13, none⟩ = some (.int .i64 y7) := hcy 13 _ (by decide) rfl
   have i14 : wi.cell? ⟨b', off' + k * 16 + 14, none⟩ = some (.int .i64 y8) := hcy 14 _ (by decide) rfl
   have i15 : wi.cell? ⟨b', off' + k * 16 + 15, none⟩ = some (.string y9) := hcy 15 _ (by decide) rfl
   clear hcx hcy
   obtain ⟨W1, hW1⟩ : ∃ W1, W1 = wi.alloc (.cells #[.int .i64 xtm, .string xtb, .string xnm, .slice xcolA xcols.length xcolC, .slice xkeyA xkey.length xkeyC, .slice xforA xfors.length xforC, .slice xchkA xchks.length xchkC, .int .i64 x1, .string x2, .string x3, .string x4, .int .i64 x5, .bool x6, .int .i64 x7, .int .i64 x8, .string x9] 83) := ⟨_, rfl⟩
   have hb1 : Below wi.heap.size wi W1 := by rw [hW1]; exact Below.of_alloc _
   have hT1 : W1.heap[wi.heap.size]? = some (.cells #[.int .i64 xtm, .string xtb, .string xnm, .slice xcolA xcols.length xcolC, .slice xkeyA xkey.length xkeyC, .slice xforA xfors.length xforC, .slice xchkA xchks.length xchkC, .int .i64 x1, .string x2, .string x3, .string x4, .int .i64 x5, .bool x6, .int .i64 x7, .int .i64 x8, .string x9] 83 (0, 0)) := by rw [hW1]; exact heap_alloc_new _ _
   have h0 := (World.cell?_of_block (hb1.block _ hF')).trans i0
   have h1 := (World.cell?_of_block (hb1.block _ hF')).trans i1
   have h2 := (World.cell?_of_block (hb1.block _ hF')).trans i2
   have h3 := (World.cell?_of_block (hb1.block _ hF')).trans i3
   have h4 := (World.cell?_of_block (hb1.block _ hF')).trans i4
   have h5 := (World.cell?_of_block (hb1.block _ hF')).trans i5
   have h6 := (World.cell?_of_block (hb1.block _ hF')).trans i6
   have h7 := (World.cell?_of_block (hb1.block _ hF')).trans i7
   have h8 := (World.cell?_of_block (hb1.block _ hF')).trans i8
   have h9 := (World.cell?_of_block (hb1.block _ hF')).trans i9
   have h10 := (World.cell?_of_block (hb1.block _ hF')).trans i10
   have h11 := (World.cell?_of_block (hb1.block _ hF')).trans i11
   have h12 := (World.cell?_of_block (hb1.block _ hF')).trans i12
   have h13 := (World.cell?_of_block (hb1.block _ hF')).trans i13
   have h14 := (World.cell?_of_block (hb1.block _ hF')).trans i14
   have h15 := (World.cell?_of_block (hb1.block _ hF')).trans i15
   have HW1 := Lib.hid hW1
   clear i0 i1 i2 i3 i4 i5 i6 i7 i8 i9 i10 i11 i12 i13 i14 i15 hW1
   obtain ⟨W2, hW2⟩ : ∃ W2, W2 = W1.alloc (.cells #[.int .i64 ytm, .string ytb, .string ynm, .slice ycolA ycols.length ycolC, .slice ykeyA ykey.length ykeyC, .slice yforA yfors.length yforC, .slice ychkA ychks.length ychkC, .int .i64 y1, .string y2, .string y3, .string y4, .int .i64 y5, .bool y6, .int .i64 y7, .int .i64 y8, .string y9] 83) := ⟨_, rfl⟩
   have hb2 : Below W1.heap.size W1 W2 := by rw [hW2]; exact Below.of_alloc _
   have hT2 : W2.heap[W1.heap.size]? = some (.cells #[.int .i64 ytm, .string ytb, .string ynm, .slice ycolA ycols.length ycolC, .slice ykeyA ykey.length ykeyC, .slice yforA yfors.length yforC, .slice ychkA ychks.length ychkC, .int .i64 y1, .string y2, .string y3, .string y4, .int .i64 y5, .bool y6, .int .i64 y7, .int .i64 y8, .string y9] 83 (0, 0)) := by rw [hW2]; exact heap_alloc_new _ _
   have hT3 := (hb2.block _ (Array.getElem?_eq_some_iff.1 hT1).1).trans hT1
   have c0 : W2.cell? ⟨wi.heap.size, 0, none⟩ = some (.int .i64 xtm) := cell_of_row W2 _ 0 _ _ _ hT3
   have c1 : W2.cell? ⟨wi.heap.size, 1, none⟩ = some (.string xtb) := cell_of_row W2 _ 1 _ _ _ hT3
   have c2 : W2.cell? ⟨wi.heap.size, 2, none⟩ = some (.string xnm) := cell_of_row W2 _ 2 _ _ _ hT3
   have c3 : W2.cell? ⟨wi.heap.size, 3, none⟩ = some (.slice xcolA xcols.length xcolC) := cell_of_row W2 _ 3 _ _ _ hT3
   have c4 : W2.cell? ⟨wi.heap.size, 4, none⟩ = some (.slice xkeyA xkey.length xkeyC) := cell_of_row W2 _ 4 _ _ _ hT3
   have c5 : W2.cell? ⟨wi.heap.size, 5, none⟩ = some (.slice xforA xfors.length xforC) := cell_of_row W2 _ 5 _ _ _ hT3
   have c6 : W2.cell? ⟨wi.heap.size, 6, none⟩ = some (.slice xchkA xchks.length xchkC) := cell_of_row W2 _ 6 _ _ _ hT3
   have c7 : W2.cell? ⟨wi.heap.size, 7, none⟩ = some (.int .i64 x1) := cell_of_row W2 _ 7 _ _ _ hT3
   have c8 : W2.cell? ⟨wi.heap.size, 8, none⟩ = some (.string x2) := cell_of_row W2 _ 8 _ _ _ hT3
   have c9 : W2.cell? ⟨wi.heap.size, 9, none⟩ = some (.string x3) := cell_of_row W2 _ 9 _ _ _ hT3
   have c10 : W2.cell? ⟨wi.heap.size, 10, none⟩ = some (.string x4) := cell_of_row W2 _ 10 _ _ _ hT3
   have c11 : W2.cell? ⟨wi.heap.size, 11, none⟩ = some (.int .i64 x5) := cell_of_row W2 _ 11 _ _ _ hT3
   have c12 : W2.cell? ⟨wi.heap.size, 12, none⟩ = some (.bool x6) := cell_of_row W2 _ 12 _ _ _ hT3
   have c13 : W2.cell? ⟨wi.heap.size, 13, none⟩ = some (.int .i64 x7) := cell_of_row W2 _ 13 _ _ _ hT3
   have c14 : W2.cell? ⟨wi.heap.size, 14, none⟩ = some (.int .i64 x8) := cell_of_row W2 _ 14 _ _ _ hT3
   have c15 : W2.cell? ⟨wi.heap.size, 15, none⟩ = some (.string x9) := cell_of_row W2 _ 15 _ _ _ hT3
   have d0 : W2.cell? ⟨W1.heap.size, 0, none⟩ = some (.int .i64 ytm) := cell_of_row W2 _ 0 _ _ _ hT2
   have d1 : W2.cell? ⟨W1.heap.size, 1, none⟩ = some (.string ytb) := cell_of_row W2 _ 1 _ _ _ hT2
   have d2 : W2.cell? ⟨W1.heap.size, 2, none⟩ = some (.string ynm) := cell_of_row W2 _ 2 _ _ _ hT2
   have d3 : W2.cell? ⟨W1.heap.size, 3, none⟩ = some (.slice ycolA ycols.length ycolC) := cell_of_row W2 _ 3 _ _ _ hT2
   have d4 : W2.cell? ⟨W1.heap.size, 4, none⟩ = some (.slice ykeyA ykey.length ykeyC) := cell_of_row W2 _ 4 _ _ _ hT2
   have d5 : W2.cell? ⟨W1.heap.size, 5, none⟩ = some (.slice yforA yfors.length yforC) := cell_of_row W2 _ 5 _ _ _ hT2
   have d6 : W2.cell? ⟨W1.heap.size, 6, none⟩ = some (.slice ychkA ychks.length ychkC) := cell_of_row W2 _ 6 _ _ _ hT2
   have d7 : W2.cell? ⟨W1.heap.size, 7, none⟩ = some (.int .i64 y1) := cell_of_row W2 _ 7 _ _ _ hT2
   have d8 : W2.cell? ⟨W1.heap.size, 8, none⟩ = some (.string y2) := cell_of_row W2 _ 8 _ _ _ hT2
   have d9 : W2.cell? ⟨W1.heap.size, 9, none⟩ = some (.string y3) := cell_of_row W2 _ 9 _ _ _ hT2
   have d10 : W2.cell? ⟨W1.heap.size, 10, none⟩ = some (.string y4) := cell_of_row W2 _ 10 _ _ _ hT2
   have d11 : W2.cell? ⟨W1.heap.size, 11, none⟩ = some (.int .i64 y5) := cell_of_row W2 _ 11 _ _ _ hT2
   have d12 : W2.cell? ⟨W1.heap.size, 12, none⟩ = some (.bool y6) := cell_of_row W2 _ 12 _ _ _ hT2
   have d13 : W2.cell? ⟨W1.heap.size, 13, none⟩ = some (.int .i64 y7) := cell_of_row W2 _ 13 _ _ _ hT2
   have d14 : W2.cell? ⟨W1.heap.size, 14, none⟩ = some (.int .i64 y8) := cell_of_row W2 _ 14 _ _ _ hT2
   have d15 : W2.cell? ⟨W1.heap.size, 15, none⟩ = some (.string y9) := cell_of_row W2 _ 15 _ _ _ hT2
   have HW2 := Lib.hid hW2
   have hbx : Below wi.heap.size wi W2 := hb1.trans (hb2.mono hb1.size)
   have KX : Calls Tryz.prog 88 #[.agg #[.int .i64 xtm, .string xtb, .string xnm, .slice xcolA xcols.length xcolC, .slice xkeyA xkey.length xkeyC, .slice xforA xfors.length xforC, .slice xchkA xchks.length xchkC, .int .i64 x1, .string x2, .string x3, .string x4, .int .i64 x5, .bool x6, .int .i64 x7, .int .i64 x8, .string x9], .agg #[.int .i64 ytm, .string ytb, .string ynm, .slice ycolA ycols.length ycolC, .slice ykeyA ykey.length ykeyC, .slice yforA yfors.length yforC, .slice ychkA ychks.length ychkC, .int .i64 y1, .string y2, .string y3, .string y4, .int .i64 y5, .bool y6, .int .i64 y7, .int .i64 y8, .string y9]] W2 (fun e w' => e = .returned (.bool bo) ∧ Below W2.heap.size W2 w') := KK _ (HB.out.trans (hbx.mono HB.out.size))
   have HBX : Hid (Below w.heap.size w W2) := Lib.hid (HB.out.trans (hbx.mono HB.out.size))
   have HKX := Lib.hid KX
   have HH := Lib.hid (And.intro h0 (And.intro h1 (And.intro h2 (And.intro h3 (And.intro h4 (And.intro h5 (And.intro h6 (And.intro h7 (And.intro h8 (And.intro h9 (And.intro h10 (And.intro h11 (And.intro h12 (And.intro h13 (And.intro h14 (h15))))))))))))))))
   have HC := Lib.hid (And.intro c0 (And.intro c1 (And.intro c2 (And.intro c3 (And.intro c4 (And.intro c5 (And.intro c6 (And.intro c7 (And.intro c8 (And.intro c9 (And.intro c10 (And.intro c11 (And.intro c12 (And.intro c13 (And.intro c14 (c15))))))))))))))))
   have HD := Lib.hid (And.intro d0 (And.intro d1 (And.intro d2 (And.intro d3 (And.intro d4 (And.intro d5 (And.intro d6 (And.intro d7 (And.intro d8 (And.intro d9 (And.intro d10 (And.intro d11 (And.intro d12 (And.intro d13 (And.intro d14 (d15))))))))))))))))
   clear KK hbx hW2 hT1 hT2 hT3 hb1 hb2 KX h0 c0 d0 h1 c1 d1 h2 c2 d2 h3 c3 d3 h4 c4 d4 h5 c5 d5 h6 c6 d6 h7 c7 d7 h8 c8 d8 h9 c9 d9 h10 c10 d10 h11 c11 d11 h12 c12 d12 h13 c13 d13 h14 c14 d14 h15 c15 d15
   as_aux_lemma =>
    go_upto_region 6 with (fail)
    rw [← HW1.out]
    clear g0 g1 g2 g3 g4 g5 g6 g7 g8 g9 g10 g11 g12 g13 g14 g15
    obtain ⟨h0, h1, h2, h3, h4, h5, h6, h7, h8, h9, h10, h11, h12, h13, h14, h15⟩ := HH.out
    as_aux_lemma =>
     go_upto_region 7 with (fail)
     rw [← HW2.out]
     clear h0 h1 h2 h3 h4 h5 h6 h7 h8 h9 h10 h11 h12 h13 h14 h15 HH
     obtain ⟨c0, c1, c2, c3, c4, c5, c6, c7, c8, c9, c10, c11, c12, c13, c14, c15⟩ := HC.out
     obtain ⟨d0, d1, d2, d3, d4, d5, d6, d7, d8, d9, d10, d11, d12, d13, d14, d15⟩ := HD.out
     as_aux_lemma =>
      go_wp2_with fail
      (with_reducible refine HKX.out.mono ?_)
      rintro _ w2 ⟨rfl, hb2⟩
      have HB2 : Hid (Below w.heap.size w w2) := Lib.hid (HBX.out.trans (hb2.mono HBX.out.size))
      clear hb2 HKX HBX HW1 HW2 HC HD c0 d0 c1 d1 c2 d2 c3 d3 c4 d4 c5 d5 c6 d6 c7 d7 c8 d8 c9 d9 c10 d10 c11 d11 c12 d12 c13 d13 c14 d14 c15 d15
      cases bo
      case false =>
       have HE : Hid (res = false) := Lib.hid (by rw [← HG2.out]; rfl)
       go_wp2_with fail
       go_ret
       exact ⟨by rw [HE.out] <;> rfl, HB2.out⟩
      case true =>
       have HN : Hid (sameL sEnt (l.drop (k + 1)) (m.drop (k + 1)) = res) := Lib.hid (by rw [← HG2.out]; simp)
       go_wp2_with fail
       go_roundw
       case rel => exact ⟨k + 1, by go_num, hlt, HN, HB2⟩
       case measure => simp [intOf]; omega
set_option maxRecDepth 1000000 in
set_option maxHeartbeats 8000000 in
theorem eqfDel_any (v u : Value) (l m : List RDl) (w : World) (hv : RdE 3 RDl.enc w (· < w.heap.size) v l) (hu : RdE 3 RDl.enc w (· < w.heap.size) u m)
  (KC : ∀ x ∈ l, ∀ y ∈ m, ∀ V, Below w.heap.size w V → Calls Tryz.prog 90 #[.agg (RDl.enc x).toArray, .agg (RDl.enc y).toArray] V fun e w' => e = .returned (.bool (sDel x y)) ∧ Below V.heap.size V w') :
  Calls Tryz.prog 89 #[v, u, .func (.func 90) #[] #[]] w fun e w' => e = .returned (.bool (sameL sDel l m)) ∧ Below w.heap.size w w' := by
 obtain ⟨A, c, rfl, a1, a2, a3⟩ := Rd.open_ (show Rd w _ 3 v l.length (l.flatMap RDl.enc) from hv)
 obtain ⟨A', c', rfl, b1, b2, b3⟩ := Rd.open_ (show Rd w _ 3 u m.length (m.flatMap RDl.enc) from hu)
 unfold maxLen at a2 b2
 have HV := Lib.hid hv
 have HU := Lib.hid hu
 have HKC := Lib.hid KC
 obtain ⟨res, hres⟩ : ∃ r, r = sameL sDel l m := ⟨_, rfl⟩
 rw [← hres]
 have HRES := Lib.hid hres
 clear hv hu KC hres a3 b3
 go_enter Tryz.func89, Tryz.ntmps89
 by_cases hlen : l.length = m.length
 case neg =>
  have HE : Hid (res = false) := Lib.hid (by rw [HRES.out]; exact sameL_len hlen)
  have hlen2 : ¬ (l.length : Int) = (m.length : Int) := by omega
  have hlen3 : ((l.length : Int) != (m.length : Int)) = true := by simpa using hlen2
  go_wp2_with fail
  go_ret
  exact ⟨by rw [HE.out] <;> rfl, Below.refl _ _⟩
 case pos =>
 have hlen2 : (l.length : Int) = (m.length : Int) := by omega
 have hlen3 : ((l.length : Int) != (m.length : Int)) = false := by simpa using hlen2
 have HLEN := Lib.hid hlen
 clear hlen hlen2
 go_wp2_with fail
 clear hlen3
 go_loopw [17] (fun i wr => ∃ k : Nat, i = .int .i64 (k : Int) ∧ k ≤ l.length ∧ Hid (sameL sDel (l.drop k) (m.drop k) = res) ∧ Hid (Below w.heap.size w wr)) (fun i _ => l.length - (intOf i).toNat)
 case atStart => exact ⟨0, rfl, Nat.zero_le _, Lib.hid HRES.out.symm, Lib.hid (Below.refl _ _)⟩
 case round =>
  obtain ⟨k, rfl, hk, HG, HB⟩ := hrel
  obtain ⟨wi, rfl⟩ : ∃ wi : World, wi = wr := ⟨_, rfl⟩
  by_cases hlt : k < l.length
  case neg =>
   have hlt3 : ¬ (k : Int) < (l.length : Int) := by omega
   have HE : Hid (res = true) := Lib.hid (by have := HLEN.out; rw [← HG.out]; exact sameL_end (by omega) (by omega))
   go_wp2_with fail
   go_ret
   exact ⟨by rw [HE.out] <;> rfl, HB.out⟩
  case pos =>
   have hlt' : k < m.length := by have := HLEN.out; omega
   have hlt3 : (k : Int) < (l.length : Int) := by omega
   have hlt4 : (k : Int) < (m.length : Int) := by omega
   obtain ⟨b, off, rfl, hF, hcl⟩ := RdE.at_ (K := 3) (enc := RDl.enc) (fun _ => rfl) (by omega) (HV.out.below HB.out) hlt
   obtain ⟨b', off', rfl, hF', hcl'⟩ := RdE.at_ (K := 3) (enc := RDl.enc) (fun _ => rfl) (by omega) (HU.out.below HB.out) hlt'
   have hcx := hcl k hlt
   have hcy := hcl' k hlt'
   have hg := HG.out
   rw [sameL_at hlt hlt'] at hg
   have KK := HKC.out _ (List.getElem_mem hlt) _ (List.getElem_mem hlt')
   obtain ⟨x, hx⟩ : ∃ x, x = l[k] := ⟨_, rfl⟩
   obtain ⟨y, hy⟩ : ∃ y, y = m[k] := ⟨_, rfl⟩
   rw [← hx] at hcx hg KK
   rw [← hy] at hcy hg KK
   obtain ⟨bo, hbo⟩ : ∃ bo, bo = sDel x y := ⟨_, rfl⟩
   rw [← hbo] at hg KK
   have HG2 := Lib.hid hg
   clear hx hy hcl hcl' hbo hg HG
   obtain ⟨xn, xcA, xcc, xcl, xoA, xoc, xops⟩ := x
   obtain ⟨yn, ycA, ycc, ycl, yoA, yoc, yops⟩ := y
   have g0 : wi.cell? ⟨b, off + k * 3, none⟩ = some (.string xn) := hcx 0 _ (by decide) rfl
   have g1 : wi.cell? ⟨b, off + k * 3 + 1, none⟩ = some (.slice xcA xcl.length xcc) := hcx 1 _ (by decide) rfl
   have g2 : wi.cell? ⟨b, off + k * 3 + 2, none⟩ = some (.slice xoA xops.length xoc) := hcx 2 _ (by decide) rfl
   have i0 : wi.cell? ⟨b', off' + k * 3, none⟩ = some (.string yn) := hcy 0 _ (by decide) rfl
   have i1 : wi.cell? ⟨b', off' + k * 3 + 1, none⟩ = some (.slice ycA ycl.length ycc) := hcy 1 _ (by decide) rfl
   have i2 : wi.cell? ⟨b', off' + k * 3 + 2, none⟩ = some (.slice yoA yops.length yoc) := hcy 2 _ (by decide) rfl
   clear hcx hcy
   obtain ⟨W1, hW1⟩ : ∃ W1, W1 = wi.alloc (.cells #[.string xn, .slice xcA xcl.length xcc, .slice xoA xops.length xoc] 63) := ⟨_, rfl⟩
   have hb1 : Below wi.heap.size wi W1 := by rw [hW1]; exact Below.of_alloc _
   have hT1 : W1.heap[wi.heap.size]? = some (.cells #[.string xn, .slice xcA xcl.length xcc, .slice xoA xops.length xoc] 63 (0, 0)) := by rw [hW1]; exact heap_alloc_new _ _
   have h0 := (World.cell?_of_block (hb1.block _ hF')).trans i0
   have h1 := (World.cell?_of_block (hb1.block _ hF')).trans i1
   have h2 := (World.cell?_of_block (hb1.block _ hF')).trans i2
   have HW1 := Lib.hid hW1
   clear i0 i1 i2 hW1
   obtain ⟨W2, hW2⟩ : ∃ W2, W2 = W1.alloc (.cells #[.string yn, .slice ycA ycl.length ycc, .slice yoA yops.length yoc] 63) := ⟨_, rfl⟩
   have hb2 : Below W1.heap.size W1 W2 := by rw [hW2]; exact Below.of_alloc _
   have hT2 : W2.heap[W1.heap.size]? = some (.cells #[.string yn, .slice ycA ycl.length ycc, .slice yoA yops.length yoc] 63 (0, 0)) := by rw [hW2]; exact heap_alloc_new _ _
   have hT3 := (hb2.block _ (Array.getElem?_eq_some_iff.1 hT1).1).trans hT1
   have c0 : W2.cell? ⟨wi.heap.size, 0, none⟩ = some (.string xn) := cell_of_row W2 _ 0 _ _ _ hT3
   have c1 : W2.cell? ⟨wi.heap.size, 1, none⟩ = some (.slice xcA xcl.length xcc) := cell_of_row W2 _ 1 _ _ _ hT3
   have c2 : W2.cell? ⟨wi.heap.size, 2, none⟩ = some (.slice xoA xops.length xoc) := cell_of_row W2 _ 2 _ _ _ hT3
   have d0 : W2.cell? ⟨W1.heap.size, 0, none⟩ = some (.string yn) := cell_of_row W2 _ 0 _ _ _ hT2
   have d1 : W2.cell? ⟨W1.heap.size, 1, none⟩ = some (.slice ycA ycl.length ycc) := cell_of_row W2 _ 1 _ _ _ hT2
   have d2 : W2.cell? ⟨W1.heap.size, 2, none⟩ = some (.slice yoA yops.length yoc) := cell_of_row W2 _ 2 _ _ _ hT2
   have HW2 := Lib.hid hW2
   have hbx : Below wi.heap.size wi W2 := hb1.trans (hb2.mono hb1.size)
   have KX : Calls Tryz.prog 90 #[.agg #[.string xn, .slice xcA xcl.length xcc, .slice xoA xops.length xoc], .agg #[.string yn, .slice ycA ycl.length ycc, .slice yoA yops.length yoc]] W2 (fun e w' => e = .returned (.bool bo) ∧ Below W2.heap.size W2 w') := KK _ (HB.out.trans (hbx.mono HB.out.size))
   have HBX : Hid (Below w.heap.size w W2) := Lib.hid (HB.out.trans (hbx.mono HB.out.size))
   have HKX := Lib.hid KX
   have HH := Lib.hid (And.intro h0 (And.intro h1 (h2)))
   have HC := Lib.hid (And.intro c0 (And.intro c1 (c2)))
   have HD := Lib.hid (And.intro d0 (And.intro d1 (d2)))
   clear KK hbx hW2 hT1 hT2 hT3 hb1 hb2 KX h0 c0 d0 h1 c1 d1 h2 c2 d2
   go_upto_region 6 with (fail)
   rw [← HW1.out]
   clear g0 g1 g2
   obtain ⟨h0, h1, h2⟩ := HH.out
   go_upto_region 7 with (fail)
   rw [← HW2.out]
   clear h0 h1 h2 HH
   obtain ⟨c0, c1, c2⟩ := HC.out
   obtain ⟨d0, d1, d2⟩ := HD.out
   go_wp2_with fail
   (with_reducible refine HKX.out.mono ?_)
   rintro _ w2 ⟨rfl, hb2⟩
   have HB2 : Hid (Below w.heap.size w w2) := Lib.hid (HBX.out.trans (hb2.mono HBX.out.size))
   clear hb2 HKX HBX HW1 HW2 HC HD c0 d0 c1 d1 c2 d2
   cases bo
   case false =>
    have HE : Hid (res = false) := Lib.hid (by rw [← HG2.out]; rfl)
    go_wp2_with fail
    go_ret
    exact ⟨by rw [HE.out] <;> rfl, HB2.out⟩
   case true =>
    have HN : Hid (sameL sDel (l.drop (k + 1)) (m.drop (k + 1)) = res) := Lib.hid (by rw [← HG2.out]; simp)
    go_wp2_with fail
    go_roundw
    case rel => exact ⟨k + 1, by go_num, hlt, HN, HB2⟩
    case measure => simp [intOf]; omega
set_option maxRecDepth 1000000 in
set_option maxHeartbeats 8000000 in
theorem eqfFct_any (v u : Value) (l m : List RF) (w : World) (hv : RdE 3 RF.enc w (· < w.heap.size) v l) (hu : RdE 3 RF.enc w (· < w.heap.size) u m)
  (KC : ∀ x ∈ l, ∀ y ∈ m, ∀ V, Below w.heap.size w V → Calls Tryz.prog 93 #[.agg (RF.enc x).toArray, .agg (RF.enc y).toArray] V fun e w' => e = .returned (.bool (sFct x y)) ∧ Below V.heap.size V w') :
  Calls Tryz.prog 92 #[v, u, .func (.func 93) #[] #[]] w fun e w' => e = .returned (.bool (sameL sFct l m)) ∧ Below w.heap.size w w' := by
 obtain ⟨A, c, rfl, a1, a2, a3⟩ := Rd.open_ (show Rd w _ 3 v l.length (l.flatMap RF.enc) from hv)
 obtain ⟨A', c', rfl, b1, b2, b3⟩ := Rd.open_ (show Rd w _ 3 u m.length (m.flatMap RF.enc) from hu)
 unfold maxLen at a2 b2
 have HV := Lib.hid hv
 have HU := Lib.hid hu
 have HKC := Lib.hid KC
 obtain ⟨res, hres⟩ : ∃ r, r = sameL sFct l m := ⟨_, rfl⟩
 rw [← hres]
 have HRES := Lib.hid hres
 clear hv hu KC hres a3 b3
 go_enter Tryz.func92, Tryz.ntmps92
 by_cases hlen : l.length = m.length
 case neg =>
  have HE : Hid (res = false) := Lib.hid (by rw [HRES.out]; exact sameL_len hlen)
  have hlen2 : ¬ (l.length : Int) = (m.length : Int) := by omega
  have hlen3 : ((l.length : Int) != (m.length : Int)) = true := by simpa using hlen2
  go_wp2_with fail
  go_ret
  exact ⟨by rw [HE.out] <;> rfl, Below.refl _ _⟩
 case pos =>
 have hlen2 : (l.length : Int) = (m.length : Int) := by omega
 have hlen3 : ((l.length : Int) != (m.length : Int)) = false := by simpa using hlen2
 have HLEN := Lib.hid hlen
 clear hlen hlen2
 go_wp2_with fail
 clear hlen3
 go_loopw [17] (fun i wr => ∃ k : Nat, i = .int .i64 (k : Int) ∧ k ≤ l.length ∧ Hid (sameL sFct (l.drop k) (m.drop k) = res) ∧ Hid (Below w.heap.size w wr)) (fun i _ => l.length - (intOf i).toNat)
 case atStart => exact ⟨0, rfl, Nat.zero_le _, Lib.hid HRES.out.symm, Lib.hid (Below.refl _ _)⟩
 case round =>
  obtain ⟨k, rfl, hk, HG, HB⟩ := hrel
  obtain ⟨wi, rfl⟩ : ∃ wi : World, wi = wr := ⟨_, rfl⟩
  by_cases hlt : k < l.length
  case neg =>
   have hlt3 : ¬ (k : Int) < (l.length : Int) := by omega
   have HE : Hid (res = true) := Lib.hid (by have := HLEN.out; rw [← HG.out]; exact sameL_end (by omega) (by omega))
   go_wp2_with fail
   go_ret
   exact ⟨by rw [HE.out] <;> rfl, HB.out⟩
  case pos =>
   have hlt' : k < m.length := by have := HLEN.out; omega
   have hlt3 : (k : Int) < (l.length : Int) := by omega
   have hlt4 : (k : Int) < (m.length : Int) := by omega
   obtain ⟨b, off, rfl, hF, hcl⟩ := RdE.at_ (K := 3) (enc := RF.enc) (fun _ => rfl) (by omega) (HV.out.below HB.out) hlt
   obtain ⟨b', off', rfl, hF', hcl'⟩ := RdE.at_ (K := 3) (enc := RF.enc) (fun _ => rfl) (by omega) (HU.out.below HB.out) hlt'
   have hcx := hcl k hlt
   have hcy := hcl' k hlt'
   have hg := HG.out
   rw [sameL_at hlt hlt'] at hg
   have KK := HKC.out _ (List.getElem_mem hlt) _ (List.getElem_mem hlt')
   obtain ⟨x, hx⟩ : ∃ x, x = l[k] := ⟨_, rfl⟩
   obtain ⟨y, hy⟩ : ∃ y, y = m[k] := ⟨_, rfl⟩
   rw [← hx] at hcx hg KK
   rw [← hy] at hcy hg KK
   obtain ⟨bo, hbo⟩ : ∃ bo, bo = sFct x y := ⟨_, rfl⟩
   rw [← hbo] at hg KK
   have HG2 := Lib.hid hg
   clear hx hy hcl hcl' hbo hg HG
   obtain ⟨xA, xn, xc, xr, x1, x2⟩ := x
   obtain ⟨yA, yn, yc, yr, y1, y2⟩ := y
   have g0 : wi.cell? ⟨b, off + k * 3, none⟩ = some (.slice xA xn xc) := hcx 0 _ (by decide) rfl
   have g1 : wi.cell? ⟨b, off + k * 3 + 1, none⟩ = some (.int .i64 x1) := hcx 1 _ (by decide) rfl
   have g2 : wi.cell? ⟨b, off + k * 3 + 2, none⟩ = some (.int .i64 x2) := hcx 2 _ (by decide) rfl
   have i0 : wi.cell? ⟨b', off' + k * 3, none⟩ = some (.slice yA yn yc) := hcy 0 _ (by decide) rfl
   have i1 : wi.cell? ⟨b', off' + k * 3 + 1, none⟩ = some (.int .i64 y1) := hcy 1 _ (by decide) rfl
   have i2 : wi.cell? ⟨b', off' + k * 3 + 2, none⟩ = some (.int .i64 y2) := hcy 2 _ (by decide) rfl
   clear hcx hcy
   obtain ⟨W1, hW1⟩ : ∃ W1, W1 = wi.alloc (.cells #[.slice xA xn xc, .int .i64 x1, .int .i64 x2] 68) := ⟨_, rfl⟩
   have hb1 : Below wi.heap.size wi W1 := by rw [hW1]; exact Below.of_alloc _
   have hT1 : W1.heap[wi.heap.size]? = some (.cells #[.slice xA xn xc, .int .i64 x1, .int .i64 x2] 68 (0, 0)) := by rw [hW1]; exact heap_alloc_new _ _
   have h0 := (World.cell?_of_block (hb1.block _ hF')).trans i0
   have h1 := (World.cell?_of_block (hb1.block _ hF')).trans i1
   have h2 := (World.cell?_of_block (hb1.block _ hF')).trans i2
   have HW1 := Lib.hid hW1
   clear i0 i1 i2 hW1
   obtain ⟨W2, hW2⟩ : ∃ W2, W2 = W1.alloc (.cells #[.slice yA yn yc, .int .i64 y1, .int .i64 y2] 68) := ⟨_, rfl⟩
   have hb2 : Below W1.heap.size W1 W2 := by rw [hW2]; exact Below.of_alloc _
   have hT2 : W2.heap[W1.heap.size]? = some (.cells #[.slice yA yn yc, .int .i64 y1, .int .i64 y2] 68 (0, 0)) := by rw [hW2]; exact heap_alloc_new _ _
   have hT3 := (hb2.block _ (Array.getElem?_eq_some_iff.1 hT1).1).trans hT1
   have c0 : W2.cell? ⟨wi.heap.size, 0, none⟩ = some (.slice xA xn xc) := cell_of_row W2 _ 0 _ _ _ hT3
   have c1 : W2.cell? ⟨wi.heap.size, 1, none⟩ = some (.int .i64 x1) := cell_of_row W2 _ 1 _ _ _ hT3
   have c2 : W2.cell? ⟨wi.heap.size, 2, none⟩ = some (.int .i64 x2) := cell_of_row W2 _ 2 _ _ _ hT3
   have d0 : W2.cell? ⟨W1.heap.size, 0, none⟩ = some (.slice yA yn yc) := cell_of_row W2 _ 0 _ _ _ hT2
   have d1 : W2.cell? ⟨W1.heap.size, 1, none⟩ = some (.int .i64 y1) := cell_of_row W2 _ 1 _ _ _ hT2
   have d2 : W2.cell? ⟨W1.heap.size, 2, none⟩ = some (.int .i64 y2) := cell_of_row W2 _ 2 _ _ _ hT2
   have HW2 := Lib.hid hW2
   have hbx : Below wi.heap.size wi W2 := hb1.trans (hb2.mono hb1.size)
   have KX : Calls Tryz.prog 93 #[.agg #[.slice xA xn xc, .int .i64 x1, .int .i64 x2], .agg #[.slice yA yn yc, .int .i64 y1, .int .i64 y2]] W2 (fun e w' => e = .returned (.bool bo) ∧ Below W2.heap.size W2 w') := KK _ (HB.out.trans (hbx.mono HB.out.size))
   have HBX : Hid (Below w.heap.size w W2) := Lib.hid (HB.out.trans (hbx.mono HB.out.size))
   have HKX := Lib.hid KX
   have HH := Lib.hid (And.intro h0 (And.intro h1 (h2)))
   have HC := Lib.hid (And.intro c0 (And.intro c1 (c2)))
   have HD := Lib.hid (And.intro d0 (And.intro d1 (d2)))
   clear KK hbx hW2 hT1 hT2 hT3 hb1 hb2 KX h0 c0 d0 h1 c1 d1 h2 c2 d2
   go_upto_region 6 with (fail)
   rw [← HW1.out]
   clear g0 g1 g2
   obtain ⟨h0, h1, h2⟩ := HH.out
   go_upto_region 7 with (fail)
   rw [← HW2.out]
   clear h0 h1 h2 HH
   obtain ⟨c0, c1, c2⟩ := HC.out
   obtain ⟨d0, d1, d2⟩ := HD.out
   go_wp2_with fail
   (with_reducible refine HKX.out.mono ?_)
   rintro _ w2 ⟨rfl, hb2⟩
   have HB2 : Hid (Below w.heap.size w w2) := Lib.hid (HBX.out.trans (hb2.mono HBX.out.size))
   clear hb2 HKX HBX HW1 HW2 HC HD c0 d0 c1 d1 c2 d2
   cases bo
   case false =>
    have HE : Hid (res = false) := Lib.hid (by rw [← HG2.out]; rfl)
    go_wp2_with fail
    go_ret
    exact ⟨by rw [HE.out] <;> rfl, HB2.out⟩
   case true =>
    have HN : Hid (sameL sFct (l.drop (k + 1)) (m.drop (k + 1)) = res) := Lib.hid (by rw [← HG2.out]; simp)
    go_wp2_with fail
    go_roundw
    case rel => exact ⟨k + 1, by go_num, hlt, HN, HB2⟩
    case measure => simp [intOf]; omega
set_option maxRecDepth 1000000 in
set_option maxHeartbeats 8000000 in
theorem eqfTvs_any (v u : Value) (l m : List RTv) (w : World) (hv : RdE 2 RTv.enc w (· < w.heap.size) v l) (hu : RdE 2 RTv.enc w (· < w.heap.size) u m)
  (KC : ∀ x ∈ l, ∀ y ∈ m, ∀ V, Below w.heap.size w V → Calls Tryz.prog 100 #[.agg (RTv.enc x).toArray, .agg (RTv.enc y).toArray] V fun e w' => e = .returned (.bool (sTv x y)) ∧ Below V.heap.size V w') :
  Calls Tryz.prog 99 #[v, u, .func (.func 100) #[] #[]] w fun e w' => e = .returned (.bool (sameL sTv l m)) ∧ Below w.heap.size w w' := by
 obtain ⟨A, c, rfl, a1, a2, a3⟩ := Rd.open_ (show Rd w _ 2 v l.length (l.flatMap RTv.enc) from hv)
 obtain ⟨A', c', rfl, b1, b2, b3⟩ := Rd.open_ (show Rd w _ 2 u m.length (m.flatMap RTv.enc) from hu)
 unfold maxLen at a2 b2
 have HV := Lib.hid hv
 have HU := Lib.hid hu
 have HKC := Lib.hid KC
 obtain ⟨res, hres⟩ : ∃ r, r = sameL sTv l m := ⟨_, rfl⟩
 rw [← hres]
 have HRES := Lib.hid hres
 clear hv hu KC hres a3 b3
 go_enter Tryz.func99, Tryz.ntmps99
 by_cases hlen : l.length = m.length
 case neg =>
  have HE : Hid (res = false) := Lib.hid (by rw [HRES.out]; exact sameL_len hlen)
  have hlen2 : ¬ (l.length : Int) = (m.length : Int) := by omega
  have hlen3 : ((l.length : Int) != (m.length : Int)) = true := by simpa using hlen2
  go_wp2_with fail
  go_ret
  exact ⟨by rw [HE.out] <;> rfl, Below.refl _ _⟩
 case pos =>
 have hlen2 : (l.length : Int) = (m.length : Int) := by omega
 have hlen3 : ((l.length : Int) != (m.length : Int)) = false := by simpa using hlen2
 have HLEN := Lib.hid hlen
 clear hlen hlen2
 go_wp2_with fail
 clear hlen3
 go_loopw [17] (fun i wr => ∃ k : Nat, i = .int .i64 (k : Int) ∧ k ≤ l.length ∧ Hid (sameL sTv (l.drop k) (m.drop k) = res) ∧ Hid (Below w.heap.size w wr)) (fun i _ => l.length - (intOf i).toNat)
 case atStart => exact ⟨0, rfl, Nat.zero_le _, Lib.hid HRES.out.symm, Lib.hid (Below.refl _ _)⟩
 case round =>
  obtain ⟨k, rfl, hk, HG, HB⟩ := hrel
  obtain ⟨wi, rfl⟩ : ∃ wi : World, wi = wr := ⟨_, rfl⟩
  by_cases hlt : k < l.length
  case neg =>
   have hlt3 : ¬ (k : Int) < (l.length : Int) := by omega
   have HE : Hid (res = true) := Lib.hid (by have := HLEN.out; rw [← HG.out]; exact sameL_end (by omega) (by omega))
   go_wp2_with fail
   go_ret
   exact ⟨by rw [HE.out] <;> rfl, HB.out⟩
  case pos =>
   have hlt' : k < m.length := by have := HLEN.out; omega
   have hlt3 : (k : Int) < (l.length : Int) := by omega
   have hlt4 : (k : Int) < (m.length : Int) := by omega
   obtain ⟨b, off, rfl, hF, hcl⟩ := RdE.at_ (K := 2) (enc := RTv.enc) (fun _ => rfl) (by omega) (HV.out.below HB.out) hlt
   obtain ⟨b', off', rfl, hF', hcl'⟩ := RdE.at_ (K := 2) (enc := RTv.enc) (fun _ => rfl) (by omega) (HU.out.below HB.out) hlt'
   have hcx := hcl k hlt
   have hcy := hcl' k hlt'
   have hg := HG.out
   rw [sameL_at hlt hlt'] at hg
   have KK := HKC.out _ (List.getElem_mem hlt) _ (List.getElem_mem hlt')
   obtain ⟨x, hx⟩ : ∃ x, x = l[k] := ⟨_, rfl⟩
   obtain ⟨y, hy⟩ : ∃ y, y = m[k] := ⟨_, rfl⟩
   rw [← hx] at hcx hg KK
   rw [← hy] at hcy hg KK
   obtain ⟨bo, hbo⟩ : ∃ bo, bo = sTv x y := ⟨_, rfl⟩
   rw [← hbo] at hg KK
   have HG2 := Lib.hid hg
   clear hx hy hcl hcl' hbo hg HG
   obtain ⟨xt, xA, xc, xv⟩ := x
   obtain ⟨yt, yA, yc, yv⟩ := y
   have g0 : wi.cell? ⟨b, off + k * 2, none⟩ = some (.string xt) := hcx 0 _ (by decide) rfl
   have g1 : wi.cell? ⟨b, off + k * 2 + 1, none⟩ = some (.slice xA xv.length xc) := hcx 1 _ (by decide) rfl
   have i0 : wi.cell? ⟨b', off' + k * 2, none⟩ = some (.string yt) := hcy 0 _ (by decide) rfl
   have i1 : wi.cell? ⟨b', off' + k * 2 + 1, none⟩ = some (.slice yA yv.length yc) := hcy 1 _ (by decide) rfl
   clear hcx hcy
   obtain ⟨W1, hW1⟩ : ∃ W1, W1 = wi.alloc (.cells #[.string xt, .slice xA xv.length xc] 165) := ⟨_, rfl⟩
   have hb1 : Below wi.heap.size wi W1 := by rw [hW1]; exact Below.of_alloc _
   have hT1 : W1.heap[wi.heap.size]? = some (.cells #[.string xt, .slice xA xv.length xc] 165 (0, 0)) := by rw [hW1]; exact heap_alloc_new _ _
   have h0 := (World.cell?_of_block (hb1.block _ hF')).trans i0
   have h1 := (World.cell?_of_block (hb1.block _ hF')).trans i1
   have HW1 := Lib.hid hW1
   clear i0 i1 hW1
   obtain ⟨W2, hW2⟩ : ∃ W2, W2 = W1.alloc (.cells #[.string yt, .slice yA yv.length yc] 165) := ⟨_, rfl⟩
   have hb2 : Below W1.heap.size W1 W2 := by rw [hW2]; exact Below.of_alloc _
   have hT2 : W2.heap[W1.heap.size]? = some (.cells #[.string yt, .slice yA yv.length yc] 165 (0, 0)) := by rw [hW2]; exact heap_alloc_new _ _
   have hT3 := (hb2.block _ (Array.getElem?_eq_some_iff.1 hT1).1).trans hT1
   have c0 : W2.cell? ⟨wi.heap.size, 0, none⟩ = some (.string xt) := cell_of_row W2 _ 0 _ _ _ hT3
   have c1 : W2.cell? ⟨wi.heap.size, 1, none⟩ = some (.slice xA xv.length xc) := cell_of_row W2 _ 1 _ _ _ hT3
   have d0 : W2.cell? ⟨W1.heap.size, 0, none⟩ = some (.string yt) := cell_of_row W2 _ 0 _ _ _ hT2
   have d1 : W2.cell? ⟨W1.heap.size, 1, none⟩ = some (.slice yA yv.length yc) := cell_of_row W2 _ 1 _ _ _ hT2
   have HW2 := Lib.hid hW2
   have hbx : Below wi.heap.size wi W2 := hb1.trans (hb2.mono hb1.size)
   have KX : Calls Tryz.prog 100 #[.agg #[.string xt, .slice xA xv.length xc], .agg #[.string yt, .slice yA yv.length yc]] W2 (fun e w' => e = .returned (.bool bo) ∧ Below W2.heap.size W2 w') := KK _ (HB.out.trans (hbx.mono HB.out.size))
   have HBX : Hid (Below w.heap.size w W2) := Lib.hid (HB.out.trans (hbx.mono HB.out.size))
   have HKX := Lib.hid KX
   have HH := Lib.hid (And.intro h0 (h1))
   have HC := Lib.hid (And.intro c0 (c1))
   have HD := Lib.hid (And.intro d0 (d1))
   clear KK hbx hW2 hT1 hT2 hT3 hb1 hb2 KX h0 c0 d0 h1 c1 d1
   go_upto_region 6 with (fail)
   rw [← HW1.out]
   clear g0 g1
   obtain ⟨h0, h1⟩ := HH.out
   go_upto_region 7 with (fail)
   rw [← HW2.out]
   clear h0 h1 HH
   obtain ⟨c0, c1⟩ := HC.out
   obtain ⟨d0, d1⟩ := HD.out
   go_wp2_with fail
   (with_reducible refine HKX.out.mono ?_)
   rintro _ w2 ⟨rfl, hb2⟩
   have HB2 : Hid (Below w.heap.size w w2) := Lib.hid (HBX.out.trans (hb2.mono HBX.out.size))
   clear hb2 HKX HBX HW1 HW2 HC HD c0 d0 c1 d1
   cases bo
   case false =>
    have HE : Hid (res = false) := Lib.hid (by rw [← HG2.out]; rfl)
    go_wp2_with fail
    go_ret
    exact ⟨by rw [HE.out] <;> rfl, HB2.out⟩
   case true =>
    have HN : Hid (sameL sTv (l.drop (k + 1)) (m.drop (k + 1)) = res) := Lib.hid (by rw [← HG2.out]; simp)
    go_wp2_with fail
    go_roundw
    case rel => exact ⟨k + 1, by go_num, hlt, HN, HB2⟩
    case measure => simp [intOf]; omega
set_option maxRecDepth 1000000 in
set_option maxHeartbeats 8000000 in
theorem eqfVer_any (v u : Value) (l m : List VP) (w : World) (hv : RdE 9 encP w (· < w.heap.size) v l) (hu : RdE 9 encP w (· < w.heap.size) u m)
  (KC : ∀ x ∈ l, ∀ y ∈ m, ∀ V, Below w.heap.size w V → Calls Tryz.prog 102 #[.agg (encP x).toArray, .agg (encP y).toArray] V fun e w' => e = .returned (.bool (sVer x y)) ∧ Below V.heap.size V w') :
  Calls Tryz.prog 101 #[v, u, .func (.func 102) #[] #[]] w fun e w' => e = .returned (.bool (sameL sVer l m)) ∧ Below w.heap.size w w' := by
 obtain ⟨A, c, rfl, a1, a2, a3⟩ := Rd.open_ (show Rd w _ 9 v l.length (l.flatMap encP) from hv)
 obtain ⟨A', c', rfl, b1, b2, b3⟩ := Rd.open_ (show Rd w _ 9 u m.length (m.flatMap encP) from hu)
 unfold maxLen at a2 b2
 have HV := Lib.hid hv
 have HU := Lib.hid hu
 have HKC := Lib.hid KC
 obtain ⟨res, hres⟩ : ∃ r, r = sameL sVer l m := ⟨_, rfl⟩
 rw [← hres]
 have HRES := Lib.hid hres
 clear hv hu KC hres a3 b3
 go_enter Tryz.func101, Tryz.ntmps101
 by_cases hlen : l.length = m.length
 case neg =>
  have HE : Hid (res = false) := Lib.hid (by rw [HRES.out]; exact sameL_len hlen)
  have hlen2 : ¬ (l.length : Int) = (m.length : Int) := by omega
  have hlen3 : ((l.length : Int) != (m.length : Int)) = true := by simpa using hlen2
  go_wp2_with fail
  go_ret
  exact ⟨by rw [HE.out] <;> rfl, Below.refl _ _⟩
 case pos =>
 have hlen2 : (l.length : Int) = (m.length : Int) := by omega
 have hlen3 : ((l.length : Int) != (m.length : Int)) = false := by simpa using hlen2
 have HLEN := Lib.hid hlen
 clear hlen hlen2
 go_wp2_with fail
 clear hlen3
 go_loopw [17] (fun i wr => ∃ k : Nat, i = .int .i64 (k : Int) ∧ k ≤ l.length ∧ Hid (sameL sVer (l.drop k) (m.drop k) = res) ∧ Hid (Below w.heap.size w wr)) (fun i _ => l.length - (intOf i).toNat)
 case atStart => exact ⟨0, rfl, Nat.zero_le _, Lib.hid HRES.out.symm, Lib.hid (Below.refl _ _)⟩
 case round =>
  obtain ⟨k, rfl, hk, HG, HB⟩ := hrel
  obtain ⟨wi, rfl⟩ : ∃ wi : World, wi = wr := ⟨_, rfl⟩
  by_cases hlt : k < l.length
  case neg =>
   have hlt3 : ¬ (k : Int) < (l.length : Int) := by omega
   have HE : Hid (res = true) := Lib.hid (by have := HLEN.out; rw [← HG.out]; exact sameL_end (by omega) (by omega))
   go_wp2_with fail
   go_ret
   exact ⟨by rw [HE.out] <;> rfl, HB.out⟩
  case pos =>
   have hlt' : k < m.length := by have := HLEN.out; omega
   have hlt3 : (k : Int) < (l.length : Int) := by omega
   have hlt4 : (k : Int) < (m.length : Int) := by omega
   obtain ⟨b, off, rfl, hF, hcl⟩ := RdE.at_ (K := 9) (enc := encP) (fun _ => rfl) (by omega) (HV.out.below HB.out) hlt
   obtain ⟨b', off', rfl, hF', hcl'⟩ := RdE.at_ (K := 9) (enc := encP) (fun _ => rfl) (by omega) (HU.out.below HB.out) hlt'
   have hcx := hcl k hlt
   have hcy := hcl' k hlt'
   have hg := HG.out
   rw [sameL_at hlt hlt'] at hg
   have KK := HKC.out _ (List.getElem_mem hlt) _ (List.getElem_mem hlt')
   obtain ⟨x, hx⟩ : ∃ x, x = l[k] := ⟨_, rfl⟩
   obtain ⟨y, hy⟩ : ∃ y, y = m[k] := ⟨_, rfl⟩
   rw [← hx] at hcx hg KK
   rw [← hy] at hcy hg KK
   obtain ⟨bo, hbo⟩ : ∃ bo, bo = sVer x y := ⟨_, rfl⟩
   rw [← hbo] at hg KK
   have HG2 := Lib.hid hg
   clear hx hy hcl hcl' hbo hg HG
   obtain ⟨⟨x1, x2, xA, xn, xc, x3, x4, x5, x6, x7, x8⟩, xv⟩ := x
   obtain ⟨⟨y1, y2, yA, yn, yc, y3, y4, y5, y6, y7, y8⟩, yv⟩ := y
   have g0 : wi.cell? ⟨b, off + k * 9, none⟩ = some (.int .i64 x1) := hcx 0 _ (by decide) rfl
   have g1 : wi.cell? ⟨b, off + k * 9 + 1, none⟩ = some (.int .i64 x2) := hcx 1 _ (by decide) rfl
   have g2 : wi.cell? ⟨b, off + k * 9 + 2, none⟩ = some (.slice xA xn xc) := hcx 2 _ (by decide) rfl
   have g3 : wi.cell? ⟨b, off + k * 9 + 3, none⟩ = some (.int .i64 x3) := hcx 3 _ (by decide) rfl
   have g4 : wi.cell? ⟨b, off + k * 9 + 4, none⟩ = some (.int .i64 x4) := hcx 4 _ (by decide) rfl
   have g5 : wi.cell? ⟨b, off + k * 9 + 5, none⟩ = some (.int .i64 x5) := hcx 5 _ (by decide) rfl
   have g6 : wi.cell? ⟨b, off + k * 9 + 6, none⟩ = some (.int .i64 x6) := hcx 6 _ (by decide) rfl
   have g7 : wi.cell? ⟨b, off + k * 9 + 7, none⟩ = some (.int .i64 x7) := hcx 7 _ (by decide) rfl
   have g8 : wi.cell? ⟨b, off + k * 9 + 8, none⟩ = some (.int .i64 x8) := hcx 8 _ (by decide) rfl
   have i0 : wi.cell? ⟨b', off' + k * 9, none⟩ = some (.int .i64 y1) := hcy 0 _ (by decide) rfl
   have i1 : wi.cell? ⟨b', off' + k * 9 + 1, none⟩ = some (.int .i64 y2) := hcy 1 _ (by decide) rfl
   have i2 : wi.cell? ⟨b', off' + k * 9 + 2, none⟩ = some (.slice yA yn yc) := hcy 2 _ (by decide) rfl
   have i3 : wi.cell? ⟨b', off' + k * 9 + 3, none⟩ = some (.int .i64 y3) := hcy 3 _ (by decide) rfl
   have i4 : wi.cell? ⟨b', off' + k * 9 + 4, none⟩ = some (.int .i64 y4) := hcy 4 _ (by decide) rfl
   have i5 : wi.cell? ⟨b', off' + k * 9 + 5, none⟩ = some (.int .i64 y5) := hcy 5 _ (by decide) rfl
   have i6 : wi.cell? ⟨b', off' + k * 9 + 6, none⟩ = some (.int .i64 y6) := hcy 6 _ (by decide) rfl
   have i7 : wi.cell? ⟨b', off' + k * 9 + 7, none⟩ = some (.int .i64 y7) := hcy 7 _ (by decide) rfl
   have i8 : wi.cell? ⟨b', off' + k * 9 + 8, none⟩ = some (.int .i64 y8) := hcy 8 _ (by decide) rfl
   clear hcx hcy
   obtain ⟨W1, hW1⟩ : ∃ W1, W1 = wi.alloc (.cells #[.int .i64 x1, .int .i64 x2, .slice xA xn xc, .int .i64 x3, .int .i64 x4, .int .i64 x5, .int .i64 x6, .int .i64 x7, .int .i64 x8] 167) := ⟨_, rfl⟩
   have hb1 : Below wi.heap.size wi W1 := by rw [hW1]; exact Below.of_alloc _
   have hT1 : W1.heap[wi.heap.size]? = some (.cells #[.int .i64 x1, .int .i64 x2, .slice xA xn xc, .int .i64 x3, .int .i64 x4, .int .i64 x5, .int .i64 x6, .int .i64 x7, .int .i64 x8] 167 (0, 0)) := by rw [hW1]; exact heap_alloc_new _ _
   have h0 := (World.cell?_of_block (hb1.block _ hF')).trans i0
   have h1 := (World.cell?_of_block (hb1.block _ hF')).trans i1
   have h2 := (World.cell?_of_block (hb1.block _ hF')).trans i2
   have h3 := (World.cell?_of_block (hb1.block _ hF')).trans i3
   have h4 := (World.cell?_of_block (hb1.block _ hF')).trans i4
   have h5 := (World.cell?_of_block (hb1.block _ hF')).trans i5
   have h6 := (World.cell?_of_block (hb1.block _ hF')).trans i6
   have h7 := (World.cell?_of_block (hb1.block _ hF')).trans i7
   have h8 := (World.cell?_of_block (hb1.block _ hF')).trans i8
   have HW1 := Lib.hid hW1
   clear i0 i1 i2 i3 i4 i5 i6 i7 i8 hW1
   obtain ⟨W2, hW2⟩ : ∃ W2, W2 = W1.alloc (.cells #[.int .i64 y1, .int .i64 y2, .slice yA yn yc, .int .i64 y3, .int .i64 y4, .int .i64 y5, .int .i64 y6, .int .i64 y7, .int .i64 y8] 167) := ⟨_, rfl⟩
   have hb2 : Below W1.heap.size W1 W2 := by rw [hW2]; exact Below.of_alloc _
   have hT2 : W2.heap[W1.heap.size]? = some (.cells #[.int .i64 y1, .int .i64 y2, .slice yA yn yc, .int .i64 y3, .int .i64 y4, .int .i64 y5, .int .i64 y6, .int .i64 y7, .int .i64 y8] 167 (0, 0)) := by rw [hW2]; exact heap_alloc_new _ _
   have hT3 := (hb2.block _ (Array.getElem?_eq_some_iff.1 hT1).1).trans hT1
   have c0 : W2.cell? ⟨wi.heap.size, 0, none⟩ = some (.int .i64 x1) := cell_of_row W2 _ 0 _ _ _ hT3
   have c1 : W2.cell? ⟨wi.heap.size, 1, none⟩ = some (.int .i64 x2) := cell_of_row W2 _ 1 _ _ _ hT3
   have c2 : W2.cell? ⟨wi.heap.size, 2, none⟩ = some (.slice xA xn xc) := cell_of_row W2 _ 2 _ _ _ hT3
   have c3 : W2.cell? ⟨wi.heap.size, 3, none⟩ = some (.int .i64 x3) := cell_of_row W2 _ 3 _ _ _ hT3
   have c4 : W2.cell? ⟨wi.heap.size, 4, none⟩ = some (.int .i64 x4) := cell_of_row W2 _ 4 _ _ _ hT3
   have c5 : W2.cell? ⟨wi.heap.size, 5, none⟩ = some (.int .i64 x5) := cell_of_row W2 _ 5 _ _ _ hT3
   have c6 : W2.cell? ⟨wi.heap.size, 6, none⟩ = some (.int .i64 x6) := cell_of_row W2 _ 6 _ _ _ hT3
   have c7 : W2.cell? ⟨wi.heap.size, 7, none⟩ = some (.int .i64 x7) := cell_of_row W2 _ 7 _ _ _ hT3
   have c8 : W2.cell? ⟨wi.heap.size, 8, none⟩ = some (.int .i64 x8) := cell_of_row W2 _ 8 _ _ _ hT3
   have d0 : W2.cell? ⟨W1.heap.size, 0, none⟩ = some (.int .i64 y1) := cell_of_row W2 _ 0 _ _ _ hT2
   have d1 : W2.cell? ⟨W1.heap.size, 1, none⟩ = some (.int .i64 y2) := cell_of_row W2 _ 1 _ _ _ hT2
   have d2 : W2.cell? ⟨W1.heap.size, 2, none⟩ = some (.slice yA yn yc) := cell_of_row W2 _ 2 _ _ _ hT2
   have d3 : W2.cell? ⟨W1.heap.size, 3, none⟩ = some (.int .i64 y3) := cell_of_row W2 _ 3 _ _ _ hT2
   have d4 : W2.cell? ⟨W1.heap.size, 4, none⟩ = some (.int .i64 y4) := cell_of_row W2 _ 4 _ _ _ hT2
   have d5 : W2.cell? ⟨W1.heap.size, 5, none⟩ = some (.int .i64 y5) := cell_of_row W2 _ 5 _ _ _ hT2
   have d6 : W2.cell? ⟨W1.heap.size, 6, none⟩ = some (.int .i64 y6) := cell_of_row W2 _ 6 _ _ _ hT2
   have d7 : W2.cell? ⟨W1.heap.size, 7, none⟩ = some (.int .i64 y7) := cell_of_row W2 _ 7 _ _ _ hT2
   have d8 : W2.cell? ⟨W1.heap.size, 8, none⟩ = some (.int .i64 y8) := cell_of_row W2 _ 8 _ _ _ hT2
   have HW2 := Lib.hid hW2
   have hbx : Below wi.heap.size wi W2 := hb1.trans (hb2.mono hb1.size)
   have KX : Calls Tryz.prog 102 #[.agg #[.int .i64 x1, .int .i64 x2, .slice xA xn xc, .int .i64 x3, .int .i64 x4, .int .i64 x5, .int .i64 x6, .int .i64 x7, .int .i64 x8], .agg #[.int .i64 y1, .int .i64 y2, .slice yA yn yc, .int .i64 y3, .int .i64 y4, .int .i64 y5, .int .i64 y6, .int .i64 y7, .int .i64 y8]] W2 (fun e w' => e = .returned (.bool bo) ∧ Below W2.heap.size W2 w') := KK _ (HB.out.trans (hbx.mono HB.out.size))
   have HBX : Hid (Below w.heap.size w W2) := Lib.hid (HB.out.trans (hbx.mono HB.out.size))
   have HKX := Lib.hid KX
   have HH := Lib.hid (And.intro h0 (And.intro h1 (And.intro h2 (And.intro h3 (And.intro h4 (And.intro h5 (And.intro h6 (And.intro h7 (h8)))))))))
   have HC := Lib.hid (And.intro c0 (And.intro c1 (And.intro c2 (And.intro c3 (And.intro c4 (And.intro c5 (And.intro c6 (And.intro c7 (c8)))))))))
   have HD := Lib.hid (And.intro d0 (And.intro d1 (And.intro d2 (And.intro d3 (And.intro d4 (And.intro d5 (And.intro d6 (And.intro d7 (d8)))))))))
   clear KK hbx hW2 hT1 hT2 hT3 hb1 hb2 KX h0 c0 d0 h1 c1 d1 h2 c2 d2 h3 c3 d3 h4 c4 d4 h5 c5 d5 h6 c6 d6 h7 c7 d7 h8 c8 d8
   go_upto_region 6 with (fail)
   rw [← HW1.out]
   clear g0 g1 g2 g3 g4 g5 g6 g7 g8
   obtain ⟨h0, h1, h2, h3, h4, h5, h6, h7, h8⟩ := HH.out
   go_upto_region 7 with (fail)
   rw [← HW2.out]
   clear h0 h1 h2 h3 h4 h5 h6 h7 h8 HH
   obtain ⟨c0, c1, c2, c3, c4, c5, c6, c7, c8⟩ := HC.out
   obtain ⟨d0, d1, d2, d3, d4, d5, d6, d7, d8⟩ := HD.out
   go_wp2_with fail
   (with_reducible refine HKX.out.mono ?_)
   rintro _ w2 ⟨rfl, hb2⟩
   have HB2 : Hid (Below w.heap.size w w2) := Lib.hid (HBX.out.trans (hb2.mono HBX.out.size))
   clear hb2 HKX HBX HW1 HW2 HC HD c0 d0 c1 d1 c2 d2 c3 d3 c4 d4 c5 d5 c6 d6 c7 d7 c8 d8
   cases bo
   case false =>
    have HE : Hid (res = false) := Lib.hid (by rw [← HG2.out]; rfl)
    go_wp2_with fail
    go_ret
    exact ⟨by rw [HE.out] <;> rfl, HB2.out⟩
   case true =>
    have HN : Hid (sameL sVer (l.drop (k + 1)) (m.drop (k + 1)) = res) := Lib.hid (by rw [← HG2.out]; simp)
    go_wp2_with fail
    go_roundw
    case rel => exact ⟨k + 1, by go_num, hlt, HN, HB2⟩
    case measure => simp [intOf]; omega
end Go.Proofs.YtbfdegkickjbpaaGreat
