/-
 SmG
-/
import Derived.Test.YtbfdegkickjbpaaGreatSSmE
namespace Go.Proofs.YtbfdegkickjbpaaGreat
open Go.RowKit Go.Lib Go.IntWalk Go.Sort Go.Shelf
set_option maxRecDepth 1000000 in
set_option maxHeartbeats 16000000 in
theorem refSameExpr0 (x y : RE) (w : World) (hx : RdE 7 RE.enc w (· < w.heap.size) x.sl x.as) (hy : RdE 7 RE.enc w (· < w.heap.size) y.sl y.as)
  (KA : ∀ a ∈ x.as, ∀ b ∈ y.as, ∀ V, Below w.heap.size w V → Calls Tryz.prog 226 #[.agg a.enc.toArray, .agg b.enc.toArray] V fun e w' => e = .returned (.bool (sX a b)) ∧ Below V.heap.size V w') :
  Calls Tryz.prog 226 #[.agg (RE.enc x).toArray, .agg (RE.enc y).toArray] w fun e w' => e = .returned (.bool (sX x y)) ∧ Below w.heap.size w w' := by
 obtain ⟨xo, xi, ⟨x1, x2, x3⟩, xn, xA, xc, xas⟩ := x
 obtain ⟨yo, yi, ⟨y1, y2, y3⟩, yn, yA, yc, yas⟩ := y
 simp only [RE.sl, RE.as] at hx hy KA
 obtain ⟨rs, hrs⟩ : ∃ r, r = sX ⟨xo, xi, ⟨x1, x2, x3⟩, xn, xA, xc, xas⟩ ⟨yo, yi, ⟨y1, y2, y3⟩, yn, yA, yc, yas⟩ := ⟨_, rfl⟩
 rw [← hrs]
 show Calls Tryz.prog 226 #[.agg #[.int .i64 xo, .int .i64 xi, .int .i64 x1, .int .i64 x2, .string x3, .string xn, .slice xA xas.length xc], .agg #[.int .i64 yo, .int .i64 yi, .int .i64 y1, .int .i64 y2, .string y3, .string yn, .slice yA yas.length yc]] w _
 have HR : Hid (rs = (decide (xo = yo) && (decide (xi = yi) && ((decide (x1 = y1) && (decide (x2 = y2) && eqS x3 y3)) && (eqS xn yn && sameL sX xas yas))))) := Lib.hid (by rw [hrs]; rw [sX_mk]; rfl)
 clear hrs
 have q1 := RdE.bd hx
 have r1 := RdE.bd hy
 have Hx1 := Lib.hid hx
 have Hy1 := Lib.hid hy
 obtain ⟨v1, hv1⟩ : ∃ bo, bo = sameL sX xas yas := ⟨_, rfl⟩
 rw [← hv1] at HR
 have Hv1 := Lib.hid hv1
 clear hv1
 have HKA := Lib.hid KA
 clear hx hy KA
 obtain ⟨W, hW⟩ : ∃ W, W = (w.alloc (.cells #[.int .i64 xo, .int .i64 xi, .int .i64 x1, .int .i64 x2, .string x3, .string xn, .slice xA xas.length xc] 212)).alloc (.cells #[.int .i64 yo, .int .i64 yi, .int .i64 y1, .int .i64 y2, .string y3, .string yn, .slice yA yas.length yc] 212) := ⟨_, rfl⟩
 have hbW : Below w.heap.size w W := by rw [hW]; exact (Below.of_alloc _).alloc (by simp) _
 have hWs : w.heap.size + 1 < W.heap.size := by rw [hW]; simp
 have hT : W.heap[w.heap.size]? = some (.cells #[.int .i64 xo, .int .i64 xi, .int .i64 x1, .int .i64 x2, .string x3, .string xn, .slice xA xas.length xc] 212 (0, 0)) := by
  rw [hW]
  exact ((Below.of_alloc (w := w.alloc (.cells #[.int .i64 xo, .int .i64 xi, .int .i64 x1, .int .i64 x2, .string x3, .string xn, .slice xA xas.length xc] 212)) (.cells #[.int .i64 yo, .int .i64 yi, .int .i64 y1, .int .i64 y2, .string y3, .string yn, .slice yA yas.length yc] 212)).block _ (by simp)).trans (heap_alloc_new _ _)
 have hU : W.heap[w.heap.size + 1]? = some (.cells #[.int .i64 yo, .int .i64 yi, .int .i64 y1, .int .i64 y2, .string y3, .string yn, .slice yA yas.length yc] 212 (0, 0)) := by
  rw [hW]
  have h := heap_alloc_new (w.alloc (.cells #[.int .i64 xo, .int .i64 xi, .int .i64 x1, .int .i64 x2, .string x3, .string xn, .slice xA xas.length xc] 212)) (.cells #[.int .i64 yo, .int .i64 yi, .int .i64 y1, .int .i64 y2, .string y3, .string yn, .slice yA yas.length yc] 212)
  simpa using h
 have FX : Hid (∀ V, Below W.heap.size W V → V.heap[w.heap.size]? = some (.cells #[.int .i64 xo, .int .i64 xi, .int .i64 x1, .int .i64 x2, .string x3, .string xn, .slice xA xas.length xc] 212 (0, 0))) := Lib.hid (fun V hV => (hV.block _ (by omega)).trans hT)
 have FY : Hid (∀ V, Below W.heap.size W V → V.heap[w.heap.size + 1]? = some (.cells #[.int .i64 yo, .int .i64 yi, .int .i64 y1, .int .i64 y2, .string y3, .string yn, .slice yA yas.length yc] 212 (0, 0))) := Lib.hid (fun V hV => (hV.block _ hWs).trans hU)
 have HBW := Lib.hid hbW
 have HC0 : Hid (Below W.heap.size W W) := Lib.hid (Below.refl _ _)
 have HW := Lib.hid hW
 clear hT hU hbW hWs hW
 have c0 : W.cell? ⟨w.heap.size, 0, none⟩ = some (.int .i64 xo) := cell_of_row W _ 0 _ _ _ (FX.out _ HC0.out)
 have c1 : W.cell? ⟨w.heap.size, 1, none⟩ = some (.int .i64 xi) := cell_of_row W _ 1 _ _ _ (FX.out _ HC0.out)
 have c2 : W.cell? ⟨w.heap.size, 2, none⟩ = some (.int .i64 x1) := cell_of_row W _ 2 _ _ _ (FX.out _ HC0.out)
 have c3 : W.cell? ⟨w.heap.size, 3, none⟩ = some (.int .i64 x2) := cell_of_row W _ 3 _ _ _ (FX.out _ HC0.out)
 have c4 : W.cell? ⟨w.heap.size, 4, none⟩ = some (.string x3) := cell_of_row W _ 4 _ _ _ (FX.out _ HC0.out)
 have c5 : W.cell? ⟨w.heap.size, 5, none⟩ = some (.string xn) := cell_of_row W _ 5 _ _ _ (FX.out _ HC0.out)
 have c6 : W.cell? ⟨w.heap.size, 6, none⟩ = some (.slice xA xas.length xc) := cell_of_row W _ 6 _ _ _ (FX.out _ HC0.out)
 have d0 : W.cell? ⟨w.heap.size + 1, 0, none⟩ = some (.int .i64 yo) := cell_of_row W _ 0 _ _ _ (FY.out _ HC0.out)
 have d1 : W.cell? ⟨w.heap.size + 1, 1, none⟩ = some (.int .i64 yi) := cell_of_row W _ 1 _ _ _ (FY.out _ HC0.out)
 have d2 : W.cell? ⟨w.heap.size + 1, 2, none⟩ = some (.int .i64 y1) := cell_of_row W _ 2 _ _ _ (FY.out _ HC0.out)
 have d3 : W.cell? ⟨w.heap.size + 1, 3, none⟩ = some (.int .i64 y2) := cell_of_row W _ 3 _ _ _ (FY.out _ HC0.out)
 have d4 : W.cell? ⟨w.heap.size + 1, 4, none⟩ = some (.string y3) := cell_of_row W _ 4 _ _ _ (FY.out _ HC0.out)
 have d5 : W.cell? ⟨w.heap.size + 1, 5, none⟩ = some (.string yn) := cell_of_row W _ 5 _ _ _ (FY.out _ HC0.out)
 have d6 : W.cell? ⟨w.heap.size + 1, 6, none⟩ = some (.slice yA yas.length yc) := cell_of_row W _ 6 _ _ _ (FY.out _ HC0.out)
 by_cases tt1 : xo = yo
 case neg =>
  have gg1 : decide (xo = yo) = false := decide_eq_false tt1
  have ee1 : (xo == yo) = false := by simpa using tt1
  have ff1 : (xo != yo) = true := by simpa using tt1
  have HF : Hid (rs = false) := Lib.hid (by rw [HR.out, gg1] <;> simp)
  go_enter Tryz.func226, Tryz.ntmps226
  go_wp2_with fail
  try rw [← HW.out]
  go_ret
  exact ⟨by rw [HF.out] <;> first | rfl | (simp; done), (HBW.out.trans (HC0.out.mono HBW.out.size))⟩
 case pos =>
  have GG1 : Hid (decide (xo = yo) = true) := Lib.hid (decide_eq_true tt1)
  have ee1 : (xo == yo) = true := by simpa using tt1
  have ff1 : (xo != yo) = false := by simpa using tt1
  clear tt1
  by_cases tt2 : xi = yi
  case neg =>
   have gg2 : decide (xi = yi) = false := decide_eq_false tt2
   have ee2 : (xi == yi) = false := by simpa using tt2
   have ff2 : (xi != yi) = true := by simpa using tt2
   have HF : Hid (rs = false) := Lib.hid (by rw [HR.out, gg2] <;> simp)
   go_enter Tryz.func226, Tryz.ntmps226
   go_wp2_with fail
   try rw [← HW.out]
   go_ret
   exact ⟨by rw [HF.out] <;> first | rfl | (simp; done), (HBW.out.trans (HC0.out.mono HBW.out.size))⟩
  case pos =>
   have GG2 : Hid (decide (xi = yi) = true) := Lib.hid (decide_eq_true tt2)
   have ee2 : (xi == yi) = true := by simpa using tt2
   have ff2 : (xi != yi) = false := by simpa using tt2
   clear tt2
   by_cases tt3 : x1 = y1
   case neg =>
    have gg3 : decide (x1 = y1) = false := decide_eq_false tt3
    have ee3 : (x1 == y1) = false := by simpa using tt3
    have ff3 : (x1 != y1) = true := by simpa using tt3
    have HF : Hid (rs = false) := Lib.hid (by rw [HR.out, gg3] <;> simp)
    go_enter Tryz.func226, Tryz.ntmps226
    go_wp2_with fail
    try rw [← HW.out]
    go_ret
    exact ⟨by rw [HF.out] <;> first | rfl | (simp; done), (HBW.out.trans (HC0.out.mono HBW.out.size))⟩
   case pos =>
    have GG3 : Hid (decide (x1 = y1) = true) := Lib.hid (decide_eq_true tt3)
    have ee3 : (x1 == y1) = true := by simpa using tt3
    have ff3 : (x1 != y1) = false := by simpa using tt3
    clear tt3
    by_cases tt4 : x2 = y2
    case neg =>
     have gg4 : decide (x2 = y2) = false := decide_eq_false tt4
     have ee4 : (x2 == y2) = false := by simpa using tt4
     have ff4 : (x2 != y2) = true := by simpa using tt4
     have HF : Hid (rs = false) := Lib.hid (by rw [HR.out, gg4] <;> simp)
     go_enter Tryz.func226, Tryz.ntmps226
     go_wp2_with fail
     try rw [← HW.out]
     go_ret
     exact ⟨by rw [HF.out] <;> first | rfl | (simp; done), (HBW.out.trans (HC0.out.mono HBW.out.size))⟩
    case pos =>
     have GG4 : Hid (decide (x2 = y2) = true) := Lib.hid (decide_eq_true tt4)
     have ee4 : (x2 == y2) = true := by simpa using tt4
     have ff4 : (x2 != y2) = false := by simpa using tt4
     clear tt4
     cases ee5 : (x3.toList == y3.toList)
     case false =>
      have gg5 : eqS x3 y3 = false := ee5
      have ff5 : (x3.toList != y3.toList) = true := by rw [bne, ee5]; rfl
      have HF : Hid (rs = false) := Lib.hid (by rw [HR.out, gg5] <;> simp)
      go_enter Tryz.func226, Tryz.ntmps226
      go_wp2_with fail
      try rw [← HW.out]
      go_ret
      exact ⟨by rw [HF.out] <;> first | rfl | (simp; done), (HBW.out.trans (HC0.out.mono HBW.out.size))⟩
     case true =>
      have GG5 : Hid (eqS x3 y3 = true) := Lib.hid ee5
      have ff5 : (x3.toList != y3.toList) = false := by rw [bne, ee5]; rfl
      cases ee6 : (xn.toList == yn.toList)
      case false =>
       have gg6 : eqS xn yn = false := ee6
       have ff6 : (xn.toList != yn.toList) = true := by rw [bne, ee6]; rfl
       have HF : Hid (rs = false) := Lib.hid (by rw [HR.out, gg6] <;> simp)
       go_enter Tryz.func226, Tryz.ntmps226
       go_wp2_with fail
       try rw [← HW.out]
       go_ret
       exact ⟨by rw [HF.out] <;> first | rfl | (simp; done), (HBW.out.trans (HC0.out.mono HBW.out.size))⟩
      case true =>
       have GG6 : Hid (eqS xn yn = true) := Lib.hid ee6
       have ff6 : (xn.toList != yn.toList) = false := by rw [bne, ee6]; rfl
       by_cases tt7 : xas.length = yas.length
       case neg =>
        have gg7 : v1 = false := by rw [Hv1.out]; exact sameL_len tt7
        have ss7 : ¬ (xas.length : Int) = (yas.length : Int) := by omega
        have ff7 : ((xas.length : Int) != (yas.length : Int)) = true := by simpa using ss7
        have HF : Hid (rs = false) := Lib.hid (by rw [HR.out, gg7] <;> simp)
        go_enter Tryz.func226, Tryz.ntmps226
        go_wp2_with fail
        try rw [← HW.out]
        go_ret
        exact ⟨by rw [HF.out] <;> first | rfl | (simp; done), (HBW.out.trans (HC0.out.mono HBW.out.size))⟩
       case pos =>
        have HL1 := Lib.hid tt7
        have ss7 : (xas.length : Int) = (yas.length : Int) := by omega
        have ff7 : ((xas.length : Int) != (yas.length : Int)) = false := by simpa using ss7
        clear tt7 ss7
        go_enter Tryz.func226, Tryz.ntmps226
        go_wp2_with fail
        try rw [← HW.out]
        clear c0 d0 c1 d1 c2 d2 c3 d3 c4 d4 c5 d5 c6 d6
        go_loopw [44] (fun i wr => ∃ k : Nat, i = .int .i64 (k : Int) ∧ k ≤ xas.length ∧ Hid (sameL sX (xas.drop k) (yas.drop k) = v1) ∧ Hid (Below W.heap.size W wr)) (fun i _ => xas.length - (intOf i).toNat)
        case atStart => exact ⟨0, rfl, Nat.zero_le _, Lib.hid Hv1.out.symm, HC0⟩
        case round =>
         obtain ⟨k, rfl, hk, HG, HB8⟩ := hrel
         obtain ⟨wi8, rfl⟩ : ∃ wi : World, wi = wr := ⟨_, rfl⟩
         by_cases hlt : k < xas.length
         case neg =>
          have hlt3 : ¬ (k : Int) < (xas.length : Int) := by omega
          have HT8 : Hid (v1 = true) := Lib.hid (by rw [← HG.out]; exact sameL_end (by omega) (by have := HL1.out; omega))
          have c0 : wi8.cell? ⟨w.heap.size, 0, none⟩ = some (.int .i64 xo) := cell_of_row wi8 _ 0 _ _ _ (FX.out _ HB8.out)
          have c1 : wi8.cell? ⟨w.heap.size, 1, none⟩ = some (.int .i64 xi) := cell_of_row wi8 _ 1 _ _ _ (FX.out _ HB8.out)
          have c2 : wi8.cell? ⟨w.heap.size, 2, none⟩ = some (.int .i64 x1) := cell_of_row wi8 _ 2 _ _ _ (FX.out _ HB8.out)
          have c3 : wi8.cell? ⟨w.heap.size, 3, none⟩ = some (.int .i64 x2) := cell_of_row wi8 _ 3 _ _ _ (FX.out _ HB8.out)
          have c4 : wi8.cell? ⟨w.heap.size, 4, none⟩ = some (.string x3) := cell_of_row wi8 _ 4 _ _ _ (FX.out _ HB8.out)
          have c5 : wi8.cell? ⟨w.heap.size, 5, none⟩ = some (.string xn) := cell_of_row wi8 _ 5 _ _ _ (FX.out _ HB8.out)
          have c6 : wi8.cell? ⟨w.heap.size, 6, none⟩ = some (.slice xA xas.length xc) := cell_of_row wi8 _ 6 _ _ _ (FX.out _ HB8.out)
          have d0 : wi8.cell? ⟨w.heap.size + 1, 0, none⟩ = some (.int .i64 yo) := cell_of_row wi8 _ 0 _ _ _ (FY.out _ HB8.out)
          have d1 : wi8.cell? ⟨w.heap.size + 1, 1, none⟩ = some (.int .i64 yi) := cell_of_row wi8 _ 1 _ _ _ (FY.out _ HB8.out)
          have d2 : wi8.cell? ⟨w.heap.size + 1, 2, none⟩ = some (.int .i64 y1) := cell_of_row wi8 _ 2 _ _ _ (FY.out _ HB8.out)
          have d3 : wi8.cell? ⟨w.heap.size + 1, 3, none⟩ = some (.int .i64 y2) := cell_of_row wi8 _ 3 _ _ _ (FY.out _ HB8.out)
          have d4 : wi8.cell? ⟨w.heap.size + 1, 4, none⟩ = some (.string y3) := cell_of_row wi8 _ 4 _ _ _ (FY.out _ HB8.out)
          have d5 : wi8.cell? ⟨w.heap.size + 1, 5, none⟩ = some (.string yn) := cell_of_row wi8 _ 5 _ _ _ (FY.out _ HB8.out)
          have d6 : wi8.cell? ⟨w.heap.size + 1, 6, none⟩ = some (.slice yA yas.length yc) := cell_of_row wi8 _ 6 _ _ _ (FY.out _ HB8.out)
          have HF : Hid (rs = true) := Lib.hid (by rw [HR.out, GG1.out, GG2.out, GG3.out, GG4.out, GG5.out, GG6.out, HT8.out] <;> first | rfl | (simp; done))
          go_wp2_with fail
          go_ret
          exact ⟨by rw [HF.out] <;> first | rfl | (simp; done), (HBW.out.trans (HB8.out.mono HBW.out.size))⟩
         case pos =>
          have hlt' : k < yas.length := by have := HL1.out; omega
          have hlt3 : (k : Int) < (xas.length : Int) := by omega
          have hlt4 : (k : Int) < (yas.length : Int) := by omega
          obtain ⟨b, off, rfl, hF, hcl⟩ := RdE.at_ (K := 7) (enc := RE.enc) (fun e => by cases e; rfl) (by omega) Hx1.out hlt
          obtain ⟨b', off', rfl, hF', hcl'⟩ := RdE.at_ (K := 7) (enc := RE.enc) (fun e => by cases e; rfl) (by omega) Hy1.out hlt'
          have HBL := Lib.hid hF
          have HBM := Lib.hid hF'
          have hcx := hcl k hlt
          have hcy := hcl' k hlt'
          have hg := HG.out
          rw [sameL_at hlt hlt'] at hg
          have ha := List.getElem_mem hlt
          have hb := List.getElem_mem hlt'
          obtain ⟨x, hx⟩ : ∃ x, x = xas[k] := ⟨_, rfl⟩
          obtain ⟨y, hy⟩ : ∃ y, y = yas[k] := ⟨_, rfl⟩
          rw [← hx] at hcx hg ha
          rw [← hy] at hcy hg hb
          obtain ⟨bo, hbo⟩ : ∃ bo, bo = sX x y := ⟨_, rfl⟩
          rw [← hbo] at hg
          have HG2 := Lib.hid hg
          clear hx hy hcl hcl' hF hF' hg HG
          obtain ⟨aao, aai, ⟨aa1, aa2, aa3⟩, aan, aaA, aac, aaas⟩ := x
          obtain ⟨bbo, bbi, ⟨bb1, bb2, bb3⟩, bbn, bbA, bbc, bbas⟩ := y
          have g0 : w.cell? ⟨b, off + k * 7, none⟩ = some (.int .i64 aao) := hcx 0 _ (by decide) rfl
          have g1 : w.cell? ⟨b, off + k * 7 + 1, none⟩ = some (.int .i64 aai) := hcx 1 _ (by decide) rfl
          have g2 : w.cell? ⟨b, off + k * 7 + 2, none⟩ = some (.int .i64 aa1) := hcx 2 _ (by decide) rfl
          have g3 : w.cell? ⟨b, off + k * 7 + 3, none⟩ = some (.int .i64 aa2) := hcx 3 _ (by decide) rfl
          have g4 : w.cell? ⟨b, off + k * 7 + 4, none⟩ = some (.string aa3) := hcx 4 _ (by decide) rfl
          have g5 : w.cell? ⟨b, off + k * 7 + 5, none⟩ = some (.string aan) := hcx 5 _ (by decide) rfl
          have g6 : w.cell? ⟨b, off + k * 7 + 6, none⟩ = some (.slice aaA aaas.length aac) := hcx 6 _ (by decide) rfl
          have h0 : w.cell? ⟨b', off' + k * 7, none⟩ = some (.int .i64 bbo) := hcy 0 _ (by decide) rfl
          have h1 : w.cell? ⟨b', off' + k * 7 + 1, none⟩ = some (.int .i64 bbi) := hcy 1 _ (by decide) rfl
          have h2 : w.cell? ⟨b', off' + k * 7 + 2, none⟩ = some (.int .i64 bb1) := hcy 2 _ (by decide) rfl
          have h3 : w.cell? ⟨b', off' + k * 7 + 3, none⟩ = some (.int .i64 bb2) := hcy 3 _ (by decide) rfl
          have h4 : w.cell? ⟨b', off' + k * 7 + 4, none⟩ = some (.string bb3) := hcy 4 _ (by decide) rfl
          have h5 : w.cell? ⟨b', off' + k * 7 + 5, none⟩ = some (.string bbn) := hcy 5 _ (by decide) rfl
          have h6 : w.cell? ⟨b', off' + k * 7 + 6, none⟩ = some (.slice bbA bbas.length bbc) := hcy 6 _ (by decide) rfl
          have HRX : Hid (bo = (sX ⟨aao, aai, ⟨aa1, aa2, aa3⟩, aan, aaA, aac, aaas⟩ ⟨bbo, bbi, ⟨bb1, bb2, bb3⟩, bbn, bbA, bbc, bbas⟩)) := Lib.hid hbo
          clear hcx hcy hbo
          have KC : ∀ (V : World), Below w.heap.size w V → Calls Tryz.prog 226 #[.agg #[.int .i64 aao, .int .i64 aai, .int .i64 aa1, .int .i64 aa2, .string aa3, .string aan, .slice aaA aaas.length aac], .agg #[.int .i64 bbo, .int .i64 bbi, .int .i64 bb1, .int .i64 bb2, .string bb3, .string bbn, .slice bbA bbas.length bbc]] V (fun e w' => e = .returned (.bool (sX ⟨aao, aai, ⟨aa1, aa2, aa3⟩, aan, aaA, aac, aaas⟩ ⟨bbo, bbi, ⟨bb1, bb2, bb3⟩, bbn, bbA, bbc, bbas⟩)) ∧ Below V.heap.size V w') := fun V hV => HKA.out _ ha _ hb V hV
          obtain ⟨vc, hvc⟩ : ∃ bo, bo = sX ⟨aao, aai, ⟨aa1, aa2, aa3⟩, aan, aaA, aac, aaas⟩ ⟨bbo, bbi, ⟨bb1, bb2, bb3⟩, bbn, bbA, bbc, bbas⟩ := ⟨_, rfl⟩
          rw [← hvc] at HRX
          simp only [← hvc] at KC
          clear hvc
          clear ha hb
          go_wp2_with fail
          refine wp_region_noPanic ?_
          refine wp_region_held_drew (S := (fun w' => Below W.heap.size W w')) (by kernel_rfl) ?_ (fun hHeld => ?_)
          ·exact HB8.out.drew
          refine heldTake 0 (some 47) (v := ?_) rfl rfl (by kernel_rfl) (by kernel_rfl) (by kernel_rfl) (by rfl) hHeld (fun _ _ _ h => h) ?_ ?_
          rotate_left
          ·intro w' hSw; (try dsimp only at hSw); go_simp <;> with_reducible rfl
          simp only [Act.put, List.setIfInBounds_toArray, List.set_cons_zero, List.set_cons_succ]
          refine heldTake 1 (some 48) (v := ?_) rfl rfl (by kernel_rfl) (by kernel_rfl) (by kernel_rfl) (by rfl) hHeld (fun _ _ _ h => h) ?_ ?_
          rotate_left
          ·intro w' hSw; (try dsimp only at hSw); have q0 := cell_of_row w' _ 6 _ _ _ (FX.out _ hSw); go_simp <;> with_reducible rfl
          simp only [Act.put, List.setIfInBounds_toArray, List.set_cons_zero, List.set_cons_succ]
          refine heldTake 2 (some 49) (v := ?_) rfl rfl (by kernel_rfl) (by kernel_rfl) (by kernel_rfl) (by rfl) hHeld (fun _ _ _ h => h) ?_ ?_
          rotate_left
          ·intro w' hSw; (try dsimp only at hSw); go_simp <;> with_reducible rfl
          simp only [Act.put, List.setIfInBounds_toArray, List.set_cons_zero, List.set_cons_succ]
          refine heldTake 3 (some 50) (v := ?_) rfl rfl (by kernel_rfl) (by kernel_rfl) (by kernel_rfl) (by rfl) hHeld (fun _ _ _ h => h) ?_ ?_
          rotate_left
          ·intro w' hSw; (try dsimp only at hSw); go_simp <;> with_reducible rfl
          simp only [Act.put, List.setIfInBounds_toArray, List.set_cons_zero, List.set_cons_succ]
          refine heldTake 4 (some 51) (v := ?_) rfl rfl (by kernel_rfl) (by kernel_rfl) (by kernel_rfl) (by rfl) hHeld (fun _ _ _ h => h) ?_ ?_
          rotate_left
          ·intro w' hSw; (try dsimp only at hSw); have q0 : w'.cell? ⟨b, off + k * 7, none⟩ = some (.int .i64 aao) := (World.cell?_of_block ((HBW.out.trans (hSw.mono HBW.out.size)).block _ HBL.out)).trans g0; have q1 : w'.cell? ⟨b, off + k * 7 + 1, none⟩ = some (.int .i64 aai) := (World.cell?_of_block ((HBW.out.trans (hSw.mono HBW.out.size)).block _ HBL.out)).trans g1; have q2 : w'.cell? ⟨b, off + k * 7 + 2, none⟩ = some (.int .i64 aa1) := (World.cell?_of_block ((HBW.out.trans (hSw.mono HBW.out.size)).block _ HBL.out)).trans g2; have q3 : w'.cell? ⟨b, off + k * 7 + 3, none⟩ = some (.int .i64 aa2) := (World.cell?_of_block ((HBW.out.trans (hSw.mono HBW.out.size)).block _ HBL.out)).trans g3; have q4 : w'.cell? ⟨b, off + k * 7 + 4, none⟩ = some (.string aa3) := (World.cell?_of_block ((HBW.out.trans (hSw.mono HBW.out.size)).block _ HBL.out)).trans g4; have q5 : w'.cell? ⟨b, off + k * 7 + 5, none⟩ = some (.string aan) := (World.cell?_of_block ((HBW.out.trans (hSw.mono HBW.out.size)).block _ HBL.out)).trans g5; have q6 : w'.cell? ⟨b, off + k * 7 + 6, none⟩ = some (.slice aaA aaas.length aac) := (World.cell?_of_block ((HBW.out.trans (hSw.mono HBW.out.size)).block _ HBL.out)).trans g6; go_simp <;> with_reducible rfl
          simp only [Act.put, List.setIfInBounds_toArray, List.set_cons_zero, List.set_cons_succ]
          refine heldTake 5 (some 52) (v := ?_) rfl rfl (by kernel_rfl) (by kernel_rfl) (by kernel_rfl) (by rfl) hHeld (fun _ _ _ h => h) ?_ ?_
          rotate_left
          ·intro w' hSw; (try dsimp only at hSw); go_simp <;> with_reducible rfl
          simp only [Act.put, List.setIfInBounds_toArray, List.set_cons_zero, List.set_cons_succ]
          refine heldTake 6 (some 53) (v := ?_) rfl rfl (by kernel_rfl) (by kernel_rfl) (by kernel_rfl) (by rfl) hHeld (fun _ _ _ h => h) ?_ ?_
          rotate_left
          ·intro w' hSw; (try dsimp only at hSw); have q0 := cell_of_row w' _ 6 _ _ _ (FY.out _ hSw); go_simp <;> with_reducible rfl
          simp only [Act.put, List.setIfInBounds_toArray, List.set_cons_zero, List.set_cons_succ]
          refine heldTake 7 (some 54) (v := ?_) rfl rfl (by kernel_rfl) (by kernel_rfl) (by kernel_rfl) (by rfl) hHeld (fun _ _ _ h => h) ?_ ?_
          rotate_left
          ·intro w' hSw; (try dsimp only at hSw); go_simp <;> with_reducible rfl
          simp only [Act.put, List.setIfInBounds_toArray, List.set_cons_zero, List.set_cons_succ]
          refine heldTake 8 (some 55) (v := ?_) rfl rfl (by kernel_rfl) (by kernel_rfl) (by kernel_rfl) (by rfl) hHeld (fun _ _ _ h => h) ?_ ?_
          rotate_left
          ·intro w' hSw; (try dsimp only at hSw); go_simp <;> with_reducible rfl
          simp only [Act.put, List.setIfInBounds_toArray, List.set_cons_zero, List.set_cons_succ]
          refine heldTake 9 (some 56) (v := ?_) rfl rfl (by kernel_rfl) (by kernel_rfl) (by kernel_rfl) (by rfl) hHeld (fun _ _ _ h => h) ?_ ?_
          rotate_left
          ·intro w' hSw; (try dsimp only at hSw); have q0 : w'.cell? ⟨b', off' + k * 7, none⟩ = some (.int .i64 bbo) := (World.cell?_of_block ((HBW.out.trans (hSw.mono HBW.out.size)).block _ HBM.out)).trans h0; have q1 : w'.cell? ⟨b', off' + k * 7 + 1, none⟩ = some (.int .i64 bbi) := (World.cell?_of_block ((HBW.out.trans (hSw.mono HBW.out.size)).block _ HBM.out)).trans h1; have q2 : w'.cell? ⟨b', off' + k * 7 + 2, none⟩ = some (.int .i64 bb1) := (World.cell?_of_block ((HBW.out.trans (hSw.mono HBW.out.size)).block _ HBM.out)).trans h2; have q3 : w'.cell? ⟨b', off' + k * 7 + 3, none⟩ = some (.int .i64 bb2) := (World.cell?_of_block ((HBW.out.trans (hSw.mono HBW.out.size)).block _ HBM.out)).trans h3; have q4 : w'.cell? ⟨b', off' + k * 7 + 4, none⟩ = some (.string bb3) := (World.cell?_of_block ((HBW.out.trans (hSw.mono HBW.out.size)).block _ HBM.out)).trans h4; have q5 : w'.cell? ⟨b', off' + k * 7 + 5, none⟩ = some (.string bbn) := (World.cell?_of_block ((HBW.out.trans (hSw.mono HBW.out.size)).block _ HBM.out)).trans h5; have q6 : w'.cell? ⟨b', off' + k * 7 + 6, none⟩ = some (.slice bbA bbas.length bbc) := (World.cell?_of_block ((HBW.out.trans (hSw.mono HBW.out.size)).block _ HBM.out)).trans h6; go_simp <;> with_reducible rfl
          simp only [Act.put, List.setIfInBounds_toArray, List.set_cons_zero, List.set_cons_succ]
          cases vc
          case false =>
           have HF : Hid (bo = false) := Lib.hid (by rw [HRX.out] <;> first | rfl | (simp; done))
           have HE : Hid (v1 = false) := Lib.hid (by rw [← HG2.out, HF.out]; rfl)
           have HFR : Hid (rs = false) := Lib.hid (by rw [HR.out, HE.out] <;> simp)
           refine heldCall 10 (some 57) (f := ?_) (args := ?_) rfl rfl (by kernel_rfl) (by rfl) ?_ ?_
           rotate_left 2
           ·go_simp <;> first | (constructor <;> with_reducible rfl) | with_reducible rfl
           (with_reducible refine (KC _ (HBW.out.trans (hHeld.mono HBW.out.size))).mono ?_)
           rintro _ z ⟨rfl, hz⟩
           refine ⟨_, rfl, keepAnd ?_ (fun hNew => ?_)⟩
           ·exact Below.trans hHeld (hz.mono hHeld.size)
           clear hHeld
           have hHeld := hNew
           clear hNew
           simp only [Act.put, List.setIfInBounds_toArray, List.set_cons_zero, List.set_cons_succ]
           refine heldTake 11 (some 58) (v := ?_) rfl rfl (by kernel_rfl) (by kernel_rfl) (by kernel_rfl) (by rfl) hHeld (fun _ _ _ h => h) ?_ ?_
           rotate_left
           ·intro w' hSw; (try dsimp only at hSw); go_simp <;> with_reducible rfl
           simp only [Act.put, List.setIfInBounds_toArray, List.set_cons_zero, List.set_cons_succ]
           refine wpAnyH_done (by kernel_rfl) ?_ _
           refine NoPanic.normal ?_
           have HZ : Hid (Below W.heap.size W _) := Lib.hid hHeld
           go_wp2_with fail
           go_ret
           exact ⟨by rw [HFR.out] <;> rfl, (HBW.out.trans (HZ.out.mono HBW.out.size))⟩
          case true =>
           have HF : Hid (bo = true) := Lib.hid (by rw [HRX.out] <;> first | rfl | (simp; done))
           have HN : Hid (sameL sX (xas.drop (k + 1)) (yas.drop (k + 1)) = v1) := Lib.hid (by rw [← HG2.out, HF.out]; simp)
           refine heldCall 10 (some 57) (f := ?_) (args := ?_) rfl rfl (by kernel_rfl) (by rfl) ?_ ?_
           rotate_left 2
           ·go_simp <;> first | (constructor <;> with_reducible rfl) | with_reducible rfl
           (with_reducible refine (KC _ (HBW.out.trans (hHeld.mono HBW.out.size))).mono ?_)
           rintro _ z ⟨rfl, hz⟩
           refine ⟨_, rfl, keepAnd ?_ (fun hNew => ?_)⟩
           ·exact Below.trans hHeld (hz.mono hHeld.size)
           clear hHeld
           have hHeld := hNew
           clear hNew
           simp only [Act.put, List.setIfInBounds_toArray, List.set_cons_zero, List.set_cons_succ]
           refine heldTake 11 (some 58) (v := ?_) rfl rfl (by kernel_rfl) (by kernel_rfl) (by kernel_rfl) (by rfl) hHeld (fun _ _ _ h => h) ?_ ?_
           rotate_left
           ·intro w' hSw; (try dsimp only at hSw); go_simp <;> with_reducible rfl
           simp only [Act.put, List.setIfInBounds_toArray, List.set_cons_zero, List.set_cons_succ]
           refine wpAnyH_done (by kernel_rfl) ?_ _
           refine NoPanic.normal ?_
           have HZ : Hid (Below W.heap.size W _) := Lib.hid hHeld
           go_wp2_with fail
           go_roundw
           case rel => exact ⟨k + 1, by go_num, hlt, HN, HZ⟩
           case measure => simp [intOf]; omega
theorem refSameExpr_any : ∀ (n : Nat) (x y : RE) (w : World), x.nodes ≤ n → exAll w (· < w.heap.size) x → exAll w (· < w.heap.size) y →
  Calls Tryz.prog 226 #[.agg x.enc.toArray, .agg y.enc.toArray] w fun e w' => e = .returned (.bool (sX x y)) ∧ Below w.heap.size w w' := by
 intro n
 induction n with
 | zero =>
  intro x y w h
  have := x.nodes_pos
  omega
 | succ n ih =>
  intro x y w h hx hy
  exact refSameExpr0 x y w hx.parts.1 hy.parts.1 (fun a ha b hb V hV => ih a b V (by have := RE.nodes_arg ha; omega) ((hx.parts.2 a ha).blw hV) ((hy.parts.2 b hb).blw hV))
set_option maxRecDepth 1000000 in
set_option maxHeartbeats 16000000 in
theorem refSameTable_any (x y : RTab) (w : World) (hx : x.is w (· < w.heap.size)) (hy : y.is w (· < w.heap.size)) (kx : ∀ e ∈ x.chks, exAll w (· < w.heap.size) e) (ky : ∀ e ∈ y.chks, exAll w (· < w.heap.size) e) :
  Calls Tryz.prog 180 #[.agg (RTab.enc x).toArray, .agg (RTab.enc y).toArray] w fun e w' => e = .returned (.bool (sTab x y)) ∧ Below w.heap.size w w' := by
 obtain ⟨xnm, xcolA, xcolC, xcols, xkeyA, xkeyC, xkey, xforA, xforC, xfors, xchkA, xchkC, xchks⟩ := x
 obtain ⟨ynm, ycolA, ycolC, ycols, ykeyA, ykeyC, ykey, yforA, yforC, yfors, ychkA, ychkC, ychks⟩ := y
 obtain ⟨rs, hrs⟩ : ∃ r, r = sTab ⟨xnm, xcolA, xcolC, xcols, xkeyA, xkeyC, xkey, xforA, xforC, xfors, xchkA, xchkC, xchks⟩ ⟨ynm, ycolA, ycolC, ycols, ykeyA, ykeyC, ykey, yforA, yforC, yfors, ychkA, ychkC, ychks⟩ := ⟨_, rfl⟩
 rw [← hrs]
 show Calls Tryz.prog 180 #[.agg #[.string xnm, .slice xcolA xcols.length xcolC, .slice xkeyA xkey.length xkeyC, .slice xforA xfors.length xforC, .slice xchkA xchks.length xchkC], .agg #[.string ynm, .slice ycolA ycols.length ycolC, .slice ykeyA ykey.length ykeyC, .slice yforA yfors.length yforC, .slice ychkA ychks.length ychkC]] w _
 have HR : Hid (rs = (eqS xnm ynm && (sameL sCol xcols ycols && (sameL sInt xkey ykey && (sameL sFor xfors yfors && sameL sX xchks ychks))))) := Lib.hid (by rw [hrs]; rfl)
 clear hrs
 have f1 : RdE 3 RCol.enc w (· < w.heap.size) (.slice xcolA xcols.length xcolC) xcols := hx.cols
 have g1 : RdE 3 RCol.enc w (· < w.heap.size) (.slice ycolA ycols.length ycolC) ycols := hy.cols
 have q1 := RdE.bd f1
 have r1 := RdE.bd g1
 have Hx1 := Lib.hid f1
 have Hy1 := Lib.hid g1
 have f3 : RdE 2 RFor.enc w (· < w.heap.size) (.slice xforA xfors.length xforC) xfors := hx.fors
 have g3 : RdE 2 RFor.enc w (· < w.heap.size) (.slice yforA yfors.length yforC) yfors := hy.fors
 have q3 := RdE.bd f3
 have r3 := RdE.bd g3
 have Hx3 := Lib.hid f3
 have Hy3 := Lib.hid g3
 have f4 : RdE 7 RE.enc w (· < w.heap.size) (.slice xchkA xchks.length xchkC) xchks := hx.chks
 have g4 : RdE 7 RE.enc w (· < w.heap.size) (.slice ychkA ychks.length ychkC) ychks := hy.chks
 have q4 := RdE.bd f4
 have r4 := RdE.bd g4
 have Hx4 := Lib.hid f4
 have Hy4 := Lib.hid g4
 have HXI := Lib.hid hx
 have HYI := Lib.hid hy
 have HKX := Lib.hid kx
 have HKY := Lib.hid ky
 obtain ⟨v1, hv1⟩ : ∃ bo, bo = sameL sCol xcols ycols := ⟨_, rfl⟩
 rw [← hv1] at HR
 have Hv1 := Lib.hid hv1
 clear hv1
 obtain ⟨v2, hv2⟩ : ∃ bo, bo = (sameL sInt xkey ykey) := ⟨_, rfl⟩
 have K2 := fun (V : World) (hV : Below w.heap.size w V) => likeInts_any _ _ xkey ykey V (hx.below hV).key (hy.below hV).key
 rw [← hv2] at K2 HR
 clear hv2
 obtain ⟨v3, hv3⟩ : ∃ bo, bo = sameL sFor xfors yfors := ⟨_, rfl⟩
 rw [← hv3] at HR
 have Hv3 := Lib.hid hv3
 clear hv3
 obtain ⟨v4, hv4⟩ : ∃ bo, bo = sameL sX xchks ychks := ⟨_, rfl⟩
 rw [← hv4] at HR
 have Hv4 := Lib.hid hv4
 clear hv4
 clear hx hy kx ky f1 f3 f4 g1 g3 g4
 obtain ⟨W, hW⟩ : ∃ W, W = (w.alloc (.cells #[.string xnm, .slice xcolA xcols.length xcolC, .slice xkeyA xkey.length xkeyC, .slice xforA xfors.length xforC, .slice xchkA xchks.length xchkC] 75)).alloc (.cells #[.string ynm, .slice ycolA ycols.length ycolC, .slice ykeyA ykey.length ykeyC, .slice yforA yfors.length yforC, .slice ychkA ychks.length ychkC] 75) := ⟨_, rfl⟩
 have hbW : Below w.heap.size w W := by rw [hW]; exact (Below.of_alloc _).alloc (by simp) _
 have hWs : w.heap.size + 1 < W.heap.size := by rw [hW]; simp
 have hT : W.heap[w.heap.size]? = some (.cells #[.string xnm, .slice xcolA xcols.length xcolC, .slice xkeyA xkey.length xkeyC, .slice xforA xfors.length xforC, .slice xchkA xchks.length xchkC] 75 (0, 0)) := by
  rw [hW]
  exact ((Below.of_alloc (w := w.alloc (.cells #[.string xnm, .slice xcolA xcols.length xcolC, .slice xkeyA xkey.length xkeyC, .slice xforA xfors.length xforC, .slice xchkA xchks.length xchkC] 75)) (.cells #[.string ynm, .slice ycolA ycols.length ycolC, .slice ykeyA ykey.length ykeyC, .slice yforA yfors.length yforC, .slice ychkA ychks.length ychkC] 75)).block _ (by simp)).trans (heap_alloc_new _ _)
 have hU : W.heap[w.heap.size + 1]? = some (.cells #[.string ynm, .slice ycolA ycols.length ycolC, .slice ykeyA ykey.length ykeyC, .slice yforA yfors.length yforC, .slice ychkA ychks.length ychkC] 75 (0, 0)) := by
  rw [hW]
  have h := heap_alloc_new (w.alloc (.cells #[.string xnm, .slice xcolA xcols.length xcolC, .slice xkeyA xkey.length xkeyC, .slice xforA xfors.length xforC, .slice xchkA xchks.length xchkC] 75)) (.cells #[.string ynm, .slice ycolA ycols.length ycolC, .slice ykeyA ykey.length ykeyC, .slice yforA yfors.length yforC, .slice ychkA ychks.length ychkC] 75)
  simpa using h
 have FX : Hid (∀ V, Below W.heap.size W V → V.heap[w.heap.size]? = some (.cells #[.string xnm, .slice xcolA xcols.length xcolC, .slice xkeyA xkey.length xkeyC, .slice xforA xfors.length xforC, .slice xchkA xchks.length xchkC] 75 (0, 0))) := Lib.hid (fun V hV => (hV.block _ (by omega)).trans hT)
 have FY : Hid (∀ V, Below W.heap.size W V → V.heap[w.heap.size + 1]? = some (.cells #[.string ynm, .slice ycolA ycols.length ycolC, .slice ykeyA ykey.length ykeyC, .slice yforA yfors.length yforC, .slice ychkA ychks.length ychkC] 75 (0, 0))) := Lib.hid (fun V hV => (hV.block _ hWs).trans hU)
 have HBW := Lib.hid hbW
 have HC0 : Hid (Below W.heap.size W W) := Lib.hid (Below.refl _ _)
 have HW := Lib.hid hW
 clear hT hU hbW hWs hW
 have c0 : W.cell? ⟨w.heap.size, 0, none⟩ = some (.string xnm) := cell_of_row W _ 0 _ _ _ (FX.out _ HC0.out)
 have c1 : W.cell? ⟨w.heap.size, 1, none⟩ = some (.slice xcolA xcols.length xcolC) := cell_of_row W _ 1 _ _ _ (FX.out _ HC0.out)
 have c2 : W.cell? ⟨w.heap.size, 2, none⟩ = some (.slice xkeyA xkey.length xkeyC) := cell_of_row W _ 2 _ _ _ (FX.out _ HC0.out)
 have c3 : W.cell? ⟨w.heap.size, 3, none⟩ = some (.slice xforA xfors.length xforC) := cell_of_row W _ 3 _ _ _ (FX.out _ HC0.out)
 have c4 : W.cell? ⟨w.heap.size, 4, none⟩ = some (.slice xchkA xchks.length xchkC) := cell_of_row W _ 4 _ _ _ (FX.out _ HC0.out)
 have d0 : W.cell? ⟨w.heap.size + 1, 0, none⟩ = some (.string ynm) := cell_of_row W _ 0 _ _ _ (FY.out _ HC0.out)
 have d1 : W.cell? ⟨w.heap.size + 1, 1, none⟩ = some (.slice ycolA ycols.length ycolC) := cell_of_row W _ 1 _ _ _ (FY.out _ HC0.out)
 have d2 : W.cell? ⟨w.heap.size + 1, 2, none⟩ = some (.slice ykeyA ykey.length ykeyC) := cell_of_row W _ 2 _ _ _ (FY.out _ HC0.out)
 have d3 : W.cell? ⟨w.heap.size + 1, 3, none⟩ = some (.slice yforA yfors.length yforC) := cell_of_row W _ 3 _ _ _ (FY.out _ HC0.out)
 have d4 : W.cell? ⟨w.heap.size + 1, 4, none⟩ = some (.slice ychkA ychks.length ychkC) := cell_of_row W _ 4 _ _ _ (FY.out _ HC0.out)
 cases ee9 : (xnm.toList == ynm.toList)
 case false =>
  have gg9 : eqS xnm ynm = false := ee9
  have ff9 : (xnm.toList != ynm.toList) = true := by rw [bne, ee9]; rfl
  have HF : Hid (rs = false) := Lib.hid (by rw [HR.out, gg9] <;> simp)
  go_enter Tryz.func180, Tryz.ntmps180
  go_wp2_with fail
  try rw [← HW.out]
  go_ret
  exact ⟨by rw [HF.out] <;> first | rfl | (simp; done), (HBW.out.trans (HC0.out.mono HBW.out.size))⟩
 case true =>
  have GG9 : Hid (eqS xnm ynm = true) := Lib.hid ee9
  have ff9 : (xnm.toList != ynm.toList) = false := by rw [bne, ee9]; rfl
  by_cases tt10 : xcols.length = ycols.length
  case neg =>
   have gg10 : v1 = false := by rw [Hv1.out]; exact sameL_len tt10
   have ss10 : ¬ (xcols.length : Int) = (ycols.length : Int) := by omega
   have ff10 : ((xcols.length : Int) != (ycols.length : Int)) = true := by simpa using ss10
   have HF : Hid (rs = false) := Lib.hid (by rw [HR.out, gg10] <;> simp)
   go_enter Tryz.func180, Tryz.ntmps180
   go_wp2_with fail
   try rw [← HW.out]
   go_ret
   exact ⟨by rw [HF.out] <;> first | rfl | (simp; done), (HBW.out.trans (HC0.out.mono HBW.out.size))⟩
  case pos =>
   have HL1 := Lib.hid tt10
   have ss10 : (xcols.length : Int) = (ycols.length : Int) := by omega
   have ff10 : ((xcols.length : Int) != (ycols.length : Int)) = false := by simpa using ss10
   clear tt10 ss10
   have KK11 := K2 W (HBW.out.trans (HC0.out.mono HBW.out.size))
   go_enter Tryz.func180, Tryz.ntmps180
   go_wp2_with fail
   try rw [← HW.out]
   (with_reducible refine KK11.mono ?_)
   rintro _ z11 ⟨rfl, hz11⟩
   clear KK11
   have HC11 : Hid (Below W.heap.size W z11) := Lib.hid (HC0.out.trans (hz11.mono HC0.out.size))
   clear hz11
   clear c0 d0 c1 d1 c2 d2 c3 d3 c4 d4
   have c0 : z11.cell? ⟨w.heap.size, 0, none⟩ = some (.string xnm) := cell_of_row z11 _ 0 _ _ _ (FX.out _ HC11.out)
   have c1 : z11.cell? ⟨w.heap.size, 1, none⟩ = some (.slice xcolA xcols.length xcolC) := cell_of_row z11 _ 1 _ _ _ (FX.out _ HC11.out)
   have c2 : z11.cell? ⟨w.heap.size, 2, none⟩ = some (.slice xkeyA xkey.length xkeyC) := cell_of_row z11 _ 2 _ _ _ (FX.out _ HC11.out)
   have c3 : z11.cell? ⟨w.heap.size, 3, none⟩ = some (.slice xforA xfors.length xforC) := cell_of_row z11 _ 3 _ _ _ (FX.out _ HC11.out)
   have c4 : z11.cell? ⟨w.heap.size, 4, none⟩ = some (.slice xchkA xchks.length xchkC) := cell_of_row z11 _ 4 _ _ _ (FX.out _ HC11.out)
   have d0 : z11.cell? ⟨w.heap.size + 1, 0, none⟩ = some (.string ynm) := cell_of_row z11 _ 0 _ _ _ (FY.out _ HC11.out)
   have d1 : z11.cell? ⟨w.heap.size + 1, 1, none⟩ = some (.slice ycolA ycols.length ycolC) := cell_of_row z11 _ 1 _ _ _ (FY.out _ HC11.out)
   have d2 : z11.cell? ⟨w.heap.size + 1, 2, none⟩ = some (.slice ykeyA ykey.length ykeyC) := cell_of_row z11 _ 2 _ _ _ (FY.out _ HC11.out)
   have d3 : z11.cell? ⟨w.heap.size + 1, 3, none⟩ = some (.slice yforA yfors.length yforC) := cell_of_row z11 _ 3 _ _ _ (FY.out _ HC11.out)
   have d4 : z11.cell? ⟨w.heap.size + 1, 4, none⟩ = some (.slice ychkA ychks.length ychkC) := cell_of_row z11 _ 4 _ _ _ (FY.out _ HC11.out)
   cases v2
   case false =>
    have HF : Hid (rs = false) := Lib.hid (by rw [HR.out] <;> simp)
    go_wp2_with fail
    go_ret
    exact ⟨by rw [HF.out] <;> first | rfl | (simp; done), (HBW.out.trans (HC11.out.mono HBW.out.size))⟩
   case true =>
    by_cases tt12 : xfors.length = yfors.length
    case neg =>
     have gg12 : v3 = false := by rw [Hv3.out]; exact sameL_len tt12
     have ss12 : ¬ (xfors.length : Int) = (yfors.length : Int) := by omega
     have ff12 : ((xfors.length : Int) != (yfors.length : Int)) = true := by simpa using ss12
     have HF : Hid (rs = false) := Lib.hid (by rw [HR.out, gg12] <;> simp)
     go_wp2_with fail
     go_ret
     exact ⟨by rw [HF.out] <;> first | rfl | (simp; done), (HBW.out.trans (HC11.out.mono HBW.out.size))⟩
    case pos =>
     have HL3 := Lib.hid tt12
     have ss12 : (xfors.length : Int) = (yfors.length : Int) := by omega
     have ff12 : ((xfors.length : Int) != (yfors.length : Int)) = false := by simpa using ss12
     clear tt12 ss12
     by_cases tt13 : xchks.length = ychks.length
     case neg =>
      have gg13 : v4 = false := by rw [Hv4.out]; exact sameL_len tt13
      have ss13 : ¬ (xchks.length : Int) = (ychks.length : Int) := by omega
      have ff13 : ((xchks.length : Int) != (ychks.length : Int)) = true := by simpa using ss13
      have HF : Hid (rs = false) := Lib.hid (by rw [HR.out, gg13] <;> simp)
      go_wp2_with fail
      go_ret
      exact ⟨by rw [HF.out] <;> first | rfl | (simp; done), (HBW.out.trans (HC11.out.mono HBW.out.size))⟩
     case pos =>
      have HL4 := Lib.hid tt13
      have ss13 : (xchks.length : Int) = (ychks.length : Int) := by omega
      have ff13 : ((xchks.length : Int) != (ychks.length : Int)) = false := by simpa using ss13
      clear tt13 ss13
      go_wp2_with fail
      clear c0 d0 c1 d1 c2 d2 c3 d3 c4 d4
      go_loopw [51] (fun i wr => ∃ k : Nat, i = .int .i64 (k : Int) ∧ k ≤ xcols.length ∧ Hid (sameL sCol (xcols.drop k) (ycols.drop k) = v1) ∧ Hid (Below W.heap.size W wr)) (fun i _ => xcols.length - (intOf i).toNat)
      case atStart => exact ⟨0, rfl, Nat.zero_le _, Lib.hid Hv1.out.symm, HC11⟩
      case round =>
       obtain ⟨k, rfl, hk, HG, HB14⟩ := hrel
       obtain ⟨wi14, rfl⟩ : ∃ wi : World, wi = wr := ⟨_, rfl⟩
       by_cases hlt : k < xcols.length
       case neg =>
        have hlt3 : ¬ (k : Int) < (xcols.length : Int) := by omega
        have HT14 : Hid (v1 = true) := Lib.hid (by rw [← HG.out]; exact sameL_end (by omega) (by have := HL1.out; omega))
        have c0 : wi14.cell? ⟨w.heap.size, 0, none⟩ = some (.string xnm) := cell_of_row wi14 _ 0 _ _ _ (FX.out _ HB14.out)
        have c1 : wi14.cell? ⟨w.heap.size, 1, none⟩ = some (.slice xcolA xcols.length xcolC) := cell_of_row wi14 _ 1 _ _ _ (FX.out _ HB14.out)
        have c2 : wi14.cell? ⟨w.heap.size, 2, none⟩ = some (.slice xkeyA xkey.length xkeyC) := cell_of_row wi14 _ 2 _ _ _ (FX.out _ HB14.out)
        have c3 : wi14.cell? ⟨w.heap.size, 3, none⟩ = some (.slice xforA xfors.length xforC) := cell_of_row wi14 _ 3 _ _ _ (FX.out _ HB14.out)
        have c4 : wi14.cell? ⟨w.heap.size, 4, none⟩ = some (.slice xchkA xchks.length xchkC) := cell_of_row wi14 _ 4 _ _ _ (FX.out _ HB14.out)
        have d0 : wi14.cell? ⟨w.heap.size + 1, 0, none⟩ = some (.string ynm) := cell_of_row wi14 _ 0 _ _ _ (FY.out _ HB14.out)
        have d1 : wi14.cell? ⟨w.heap.size + 1, 1, none⟩ = some (.slice ycolA ycols.length ycolC) := cell_of_row wi14 _ 1 _ _ _ (FY.out _ HB14.out)
        have d2 : wi14.cell? ⟨w.heap.size + 1, 2, none⟩ = some (.slice ykeyA ykey.length ykeyC) := cell_of_row wi14 _ 2 _ _ _ (FY.out _ HB14.out)
        have d3 : wi14.cell? ⟨w.heap.size + 1, 3, none⟩ = some (.slice yforA yfors.length yforC) := cell_of_row wi14 _ 3 _ _ _ (FY.out _ HB14.out)
        have d4 : wi14.cell? ⟨w.heap.size + 1, 4, none⟩ = some (.slice ychkA ychks.length ychkC) := cell_of_row wi14 _ 4 _ _ _ (FY.out _ HB14.out)
        go_wp2_with fail
        clear c0 d0 c1 d1 c2 d2 c3 d3 c4 d4
        go_loopw [69] (fun i wr => ∃ k : Nat, i = .int .i64 (k : Int) ∧ k ≤ xfors.length ∧ Hid (sameL sFor (xfors.drop k) (yfors.drop k) = v3) ∧ Hid (Below W.heap.size W wr)) (fun i _ => xfors.length - (intOf i).toNat)
        case atStart => exact ⟨0, rfl, Nat.zero_le _, Lib.hid Hv3.out.symm, HB14⟩
        case round =>
         obtain ⟨k, rfl, hk, HG, HB15⟩ := hrel
         obtain ⟨wi15, rfl⟩ : ∃ wi : World, wi = wr := ⟨_, rfl⟩
         by_cases hlt : k < xfors.length
         case neg =>
          have hlt3 : ¬ (k : Int) < (xfors.length : Int) := by omega
          have HT15 : Hid (v3 = true) := Lib.hid (by rw [← HG.out]; exact sameL_end (by omega) (by have := HL3.out; omega))
          have c0 : wi15.cell? ⟨w.heap.size, 0, none⟩ = some (.string xnm) := cell_of_row wi15 _ 0 _ _ _ (FX.out _ HB15.out)
          have c1 : wi15.cell? ⟨w.heap.size, 1, none⟩ = some (.slice xcolA xcols.length xcolC) := cell_of_row wi15 _ 1 _ _ _ (FX.out _ HB15.out)
          have c2 : wi15.cell? ⟨w.heap.size, 2, none⟩ = some (.slice xkeyA xkey.length xkeyC) := cell_of_row wi15 _ 2 _ _ _ (FX.out _ HB15.out)
          have c3 : wi15.cell? ⟨w.heap.size, 3, none⟩ = some (.slice xforA xfors.length xforC) := cell_of_row wi15 _ 3 _ _ _ (FX.out _ HB15.out)
          have c4 : wi15.cell? ⟨w.heap.size, 4, none⟩ = some (.slice xchkA xchks.length xchkC) := cell_of_row wi15 _ 4 _ _ _ (FX.out _ HB15.out)
          have d0 : wi15.cell? ⟨w.heap.size + 1, 0, none⟩ = some (.string ynm) := cell_of_row wi15 _ 0 _ _ _ (FY.out _ HB15.out)
          have d1 : wi15.cell? ⟨w.heap.size + 1, 1, none⟩ = some (.slice ycolA ycols.length ycolC) := cell_of_row wi15 _ 1 _ _ _ (FY.out _ HB15.out)
          have d2 : wi15.cell? ⟨w.heap.size + 1, 2, none⟩ = some (.slice ykeyA ykey.length ykeyC) := cell_of_row wi15 _ 2 _ _ _ (FY.out _ HB15.out)
          have d3 : wi15.cell? ⟨w.heap.size + 1, 3, none⟩ = some (.slice yforA yfors.length yforC) := cell_of_row wi15 _ 3 _ _ _ (FY.out _ HB15.out)
          have d4 : wi15.cell? ⟨w.heap.size + 1, 4, none⟩ = some (.slice ychkA ychks.length ychkC) := cell_of_row wi15 _ 4 _ _ _ (FY.out _ HB15.out)
          go_wp2_with fail
          clear c0 d0 c1 d1 c2 d2 c3 d3 c4 d4
          go_loopw [105] (fun i wr => ∃ k : Nat, i = .int .i64 (k : Int) ∧ k ≤ xchks.length ∧ Hid (sameL sX (xchks.drop k) (ychks.drop k) = v4) ∧ Hid (Below W.heap.size W wr)) (fun i _ => xchks.length - (intOf i).toNat)
          case atStart => exact ⟨0, rfl, Nat.zero_le _, Lib.hid Hv4.out.symm, HB15⟩
          case round =>
           obtain ⟨k, rfl, hk, HG, HB16⟩ := hrel
           obtain ⟨wi16, rfl⟩ : ∃ wi : World, wi = wr := ⟨_, rfl⟩
           by_cases hlt : k < xchks.length
           case neg =>
            have hlt3 : ¬ (k : Int) < (xchks.length : Int) := by omega
            have HT16 : Hid (v4 = true) := Lib.hid (by rw [← HG.out]; exact sameL_end (by omega) (by have := HL4.out; omega))
            have c0 : wi16.cell? ⟨w.heap.size, 0, none⟩ = some (.string xnm) := cell_of_row wi16 _ 0 _ _ _ (FX.out _ HB16.out)
            have c1 : wi16.cell? ⟨w.heap.size, 1, none⟩ = some (.slice xcolA xcols.length xcolC) := cell_of_row wi16 _ 1 _ _ _ (FX.out _ HB16.out)
            have c2 : wi16.cell? ⟨w.heap.size, 2, none⟩ = some (.slice xkeyA xkey.length xkeyC) := cell_of_row wi16 _ 2 _ _ _ (FX.out _ HB16.out)
            have c3 : wi16.cell? ⟨w.heap.size, 3, none⟩ = some (.slice xforA xfors.length xforC) := cell_of_row wi16 _ 3 _ _ _ (FX.out _ HB16.out)
            have c4 : wi16.cell? ⟨w.heap.size, 4, none⟩ = some (.slice xchkA xchks.length xchkC) := cell_of_row wi16 _ 4 _ _ _ (FX.out _ HB16.out)
            have d0 : wi16.cell? ⟨w.heap.size + 1, 0, none⟩ = some (.string ynm) := cell_of_row wi16 _ 0 _ _ _ (FY.out _ HB16.out)
            have d1 : wi16.cell? ⟨w.heap.size + 1, 1, none⟩ = some (.slice ycolA ycols.length ycolC) := cell_of_row wi16 _ 1 _ _ _ (FY.out _ HB16.out)
            have d2 : wi16.cell? ⟨w.heap.size + 1, 2, none⟩ = some (.slice ykeyA ykey.length ykeyC) := cell_of_row wi16 _ 2 _ _ _ (FY.out _ HB16.out)
            have d3 : wi16.cell? ⟨w.heap.size + 1, 3, none⟩ = some (.slice yforA yfors.length yforC) := cell_of_row wi16 _ 3 _ _ _ (FY.out _ HB16.out)
            have d4 : wi16.cell? ⟨w.heap.size + 1, 4, none⟩ = some (.slice ychkA ychks.length ychkC) := cell_of_row wi16 _ 4 _ _ _ (FY.out _ HB16.out)
            have HF : Hid (rs = true) := Lib.hid (by rw [HR.out, GG9.out, HT14.out, HT15.out, HT16.out] <;> first | rfl | (simp; done))
            go_wp2_with fail
            go_ret
            exact ⟨by rw [HF.out] <;> first | rfl | (simp; done), (HBW.out.trans (HB16.out.mono HBW.out.size))⟩
           case pos =>
            have hlt' : k < ychks.length := by have := HL4.out; omega
            have hlt3 : (k : Int) < (xchks.length : Int) := by omega
            have hlt4 : (k : Int) < (ychks.length : Int) := by omega
            obtain ⟨b, off, rfl, hF, hcl⟩ := RdE.at_ (K := 7) (enc := RE.enc) (fun e => by cases e; rfl) (by omega) Hx4.out hlt
            obtain ⟨b', off', rfl, hF', hcl'⟩ := RdE.at_ (K := 7) (enc := RE.enc) (fun e => by cases e; rfl) (by omega) Hy4.out hlt'
            have HBL := Lib.hid hF
            have HBM := Lib.hid hF'
            have hcx := hcl k hlt
            have hcy := hcl' k hlt'
            have hg := HG.out
            rw [sameL_at hlt hlt'] at hg
            have ha := List.getElem_mem hlt
            have hb := List.getElem_mem hlt'
            obtain ⟨x, hx⟩ : ∃ x, x = xchks[k] := ⟨_, rfl⟩
            obtain ⟨y, hy⟩ : ∃ y, y = ychks[k] := ⟨_, rfl⟩
            rw [← hx] at hcx hg ha
            rw [← hy] at hcy hg hb
            obtain ⟨bo, hbo⟩ : ∃ bo, bo = sX x y := ⟨_, rfl⟩
            rw [← hbo] at hg
            have HG2 := Lib.hid hg
            clear hx hy hcl hcl' hF hF' hg HG
            obtain ⟨xo, xi, ⟨x1, x2, x3⟩, xn, xA, xc, xas⟩ := x
            obtain ⟨yo, yi, ⟨y1, y2, y3⟩, yn, yA, yc, yas⟩ := y
            have g0 : w.cell? ⟨b, off + k * 7, none⟩ = some (.int .i64 xo) := hcx 0 _ (by decide) rfl
            have g1 : w.cell? ⟨b, off + k * 7 + 1, none⟩ = some (.int .i64 xi) := hcx 1 _ (by decide) rfl
            have g2 : w.cell? ⟨b, off + k * 7 + 2, none⟩ = some (.int .i64 x1) := hcx 2 _ (by decide) rfl
            have g3 : w.cell? ⟨b, off + k * 7 + 3, none⟩ = some (.int .i64 x2) := hcx 3 _ (by decide) rfl
            have g4 : w.cell? ⟨b, off + k * 7 + 4, none⟩ = some (.string x3) := hcx 4 _ (by decide) rfl
            have g5 : w.cell? ⟨b, off + k * 7 + 5, none⟩ = some (.string xn) := hcx 5 _ (by decide) rfl
            have g6 : w.cell? ⟨b, off + k * 7 + 6, none⟩ = some (.slice xA xas.length xc) := hcx 6 _ (by decide) rfl
            have h0 : w.cell? ⟨b', off' + k * 7, none⟩ = some (.int .i64 yo) := hcy 0 _ (by decide) rfl
            have h1 : w.cell? ⟨b', off' + k * 7 + 1, none⟩ = some (.int .i64 yi) := hcy 1 _ (by decide) rfl
            have h2 : w.cell? ⟨b', off' + k * 7 + 2, none⟩ = some (.int .i64 y1) := hcy 2 _ (by decide) rfl
            have h3 : w.cell? ⟨b', off' + k * 7 + 3, none⟩ = some (.int .i64 y2) := hcy 3 _ (by decide) rfl
            have h4 : w.cell? ⟨b', off' + k * 7 + 4, none⟩ = some (.string y3) := hcy 4 _ (by decide) rfl
            have h5 : w.cell? ⟨b', off' + k * 7 + 5, none⟩ = some (.string yn) := hcy 5 _ (by decide) rfl
            have h6 : w.cell? ⟨b', off' + k * 7 + 6, none⟩ = some (.slice yA yas.length yc) := hcy 6 _ (by decide) rfl
            have HRX : Hid (bo = (sX ⟨xo, xi, ⟨x1, x2, x3⟩, xn, xA, xc, xas⟩ ⟨yo, yi, ⟨y1, y2, y3⟩, yn, yA, yc, yas⟩)) := Lib.hid hbo
            clear hcx hcy hbo
            have KC : ∀ (V : World), Below w.heap.size w V → Calls Tryz.prog 226 #[.agg #[.int .i64 xo, .int .i64 xi, .int .i64 x1, .int .i64 x2, .string x3, .string xn, .slice xA xas.length xc], .agg #[.int .i64 yo, .int .i64 yi, .int .i64 y1, .int .i64 y2, .string y3, .string yn, .slice yA yas.length yc]] V (fun e w' => e = .returned (.bool (sX ⟨xo, xi, ⟨x1, x2, x3⟩, xn, xA, xc, xas⟩ ⟨yo, yi, ⟨y1, y2, y3⟩, yn, yA, yc, yas⟩)) ∧ Below V.heap.size V w') := fun V hV => refSameExpr_any _ ⟨xo, xi, ⟨x1, x2, x3⟩, xn, xA, xc, xas⟩ ⟨yo, yi, ⟨y1, y2, y3⟩, yn, yA, yc, yas⟩ V (Nat.le_refl _) ((HKX.out _ ha).blw hV) ((HKY.out _ hb).blw hV)
            obtain ⟨vc, hvc⟩ : ∃ bo, bo = sX ⟨xo, xi, ⟨x1, x2, x3⟩, xn, xA, xc, xas⟩ ⟨yo, yi, ⟨y1, y2, y3⟩, yn, yA, yc, yas⟩ := ⟨_, rfl⟩
            rw [← hvc] at HRX
            simp only [← hvc] at KC
            clear hvc
            clear ha hb
            go_wp2_with fail
            refine wp_region_noPanic ?_
            refine wp_region_held_drew (S := (fun w' => Below W.heap.size W w')) (by kernel_rfl) ?_ (fun hHeld => ?_)
            ·exact HB16.out.drew
            refine heldTake 0 (some 108) (v := ?_) rfl rfl (by kernel_rfl) (by kernel_rfl) (by kernel_rfl) (by rfl) hHeld (fun _ _ _ h => h) ?_ ?_
            rotate_left
            ·intro w' hSw; (try dsimp only at hSw); go_simp <;> with_reducible rfl
            simp only [Act.put, List.setIfInBounds_toArray, List.set_cons_zero, List.set_cons_succ]
            refine heldTake 1 (some 109) (v := ?_) rfl rfl (by kernel_rfl) (by kernel_rfl) (by kernel_rfl) (by rfl) hHeld (fun _ _ _ h => h) ?_ ?_
            rotate_left
            ·intro w' hSw; (try dsimp only at hSw); have q0 := cell_of_row w' _ 4 _ _ _ (FX.out _ hSw); go_simp <;> with_reducible rfl
            simp only [Act.put, List.setIfInBounds_toArray, List.set_cons_zero, List.set_cons_succ]
            refine heldTake 2 (some 110) (v := ?_) rfl rfl (by kernel_rfl) (by kernel_rfl) (by kernel_rfl) (by rfl) hHeld (fun _ _ _ h => h) ?_ ?_
            rotate_left
            ·intro w' hSw; (try dsimp only at hSw); go_simp <;> with_reducible rfl
            simp only [Act.put, List.setIfInBounds_toArray, List.set_cons_zero, List.set_cons_succ]
            refine heldTake 3 (some 111) (v := ?_) rfl rfl (by kernel_rfl) (by kernel_rfl) (by kernel_rfl) (by rfl) hHeld (fun _ _ _ h => h) ?_ ?_
            rotate_left
            ·intro w' hSw; (try dsimp only at hSw); go_simp <;> with_reducible rfl
            simp only [Act.put, List.setIfInBounds_toArray, List.set_cons_zero, List.set_cons_succ]
            refine heldTake 4 (some 112) (v := ?_) rfl rfl (by kernel_rfl) (by kernel_rfl) (by kernel_rfl) (by rfl) hHeld (fun _ _ _ h => h) ?_ ?_
            rotate_left
            ·intro w' hSw; (try dsimp only at hSw); have q0 : w'.cell? ⟨b, off + k * 7, none⟩ = some (.int .i64 xo) := (World.cell?_of_block ((HBW.out.trans (hSw.mono HBW.out.size)).block _ HBL.out)).trans g0; have q1 : w'.cell? ⟨b, off + k * 7 + 1, none⟩ = some (.int .i64 xi) := (World.cell?_of_block ((HBW.out.trans (hSw.mono HBW.out.size)).block _ HBL.out)).trans g1; have q2 : w'.cell? ⟨b, off + k * 7 + 2, none⟩ = some (.int .i64 x1) := (World.cell?_of_block ((HBW.out.trans (hSw.mono HBW.out.size)).block _ HBL.out)).trans g2; have q3 : w'.cell? ⟨b, off + k * 7 + 3, none⟩ = some (.int .i64 x2) := (World.cell?_of_block ((HBW.out.trans (hSw.mono HBW.out.size)).block _ HBL.out)).trans g3; have q4 : w'.cell? ⟨b, off + k * 7 + 4, none⟩ = some (.string x3) := (World.cell?_of_block ((HBW.out.trans (hSw.mono HBW.out.size)).block _ HBL.out)).trans g4; have q5 : w'.cell? ⟨b, off + k * 7 + 5, none⟩ = some (.string xn) := (World.cell?_of_block ((HBW.out.trans (hSw.mono HBW.out.size)).block _ HBL.out)).trans g5; have q6 : w'.cell? ⟨b, off + k * 7 + 6, none⟩ = some (.slice xA xas.length xc) := (World.cell?_of_block ((HBW.out.trans (hSw.mono HBW.out.size)).block _ HBL.out)).trans g6; go_simp <;> with_reducible rfl
            simp only [Act.put, List.setIfInBounds_toArray, List.set_cons_zero, List.set_cons_succ]
            refine heldTake 5 (some 113) (v := ?_) rfl rfl (by kernel_rfl) (by kernel_rfl) (by kernel_rfl) (by rfl) hHeld (fun _ _ _ h => h) ?_ ?_
            rotate_left
            ·intro w' hSw; (try dsimp only at hSw); go_simp <;> with_reducible rfl
            simp only [Act.put, List.setIfInBounds_toArray, List.set_cons_zero, List.set_cons_succ]
            refine heldTake 6 (some 114) (v := ?_) rfl rfl (by kernel_rfl) (by kernel_rfl) (by kernel_rfl) (by rfl) hHeld (fun _ _ _ h => h) ?_ ?_
            rotate_left
            ·intro w' hSw; (try dsimp only at hSw); have q0 := cell_of_row w' _ 4 _ _ _ (FY.out _ hSw); go_simp <;> with_reducible rfl
            simp only [Act.put, List.setIfInBounds_toArray, List.set_cons_zero, List.set_cons_succ]
            refine heldTake 7 (some 115) (v := ?_) rfl rfl (by kernel_rfl) (by kernel_rfl) (by kernel_rfl) (by rfl) hHeld (fun _ _ _ h => h) ?_ ?_
            rotate_left
            ·intro w' hSw; (try dsimp only at hSw); go_simp <;> with_reducible rfl
            simp only [Act.put, List.setIfInBounds_toArray, List.set_cons_zero, List.set_cons_succ]
            refine heldTake 8 (some 116) (v := ?_) rfl rfl (by kernel_rfl) (by kernel_rfl) (by kernel_rfl) (by rfl) hHeld (fun _ _ _ h => h) ?_ ?_
            rotate_left
            ·intro w' hSw; (try dsimp only at hSw); go_simp <;> with_reducible rfl
            simp only [Act.put, List.setIfInBounds_toArray, List.set_cons_zero, List.set_cons_succ]
            refine heldTake 9 (some 117) (v := ?_) rfl rfl (by kernel_rfl) (by kernel_rfl) (by kernel_rfl) (by rfl) hHeld (fun _ _ _ h => h) ?_ ?_
            rotate_left
            ·intro w' hSw; (try dsimp only at hSw); have q0 : w'.cell? ⟨b', off' + k * 7, none⟩ = some (.int .i64 yo) := (World.cell?_of_block ((HBW.out.trans (hSw.mono HBW.out.size)).block _ HBM.out)).trans h0; have q1 : w'.cell? ⟨b', off' + k * 7 + 1, none⟩ = some (.int .i64 yi) := (World.cell?_of_block ((HBW.out.trans (hSw.mono HBW.out.size)).block _ HBM.out)).trans h1; have q2 : w'.cell? ⟨b', off' + k * 7 + 2, none⟩ = some (.int .i64 y1) := (World.cell?_of_block ((HBW.out.trans (hSw.mono HBW.out.size)).block _ HBM.out)).trans h2; have q3 : w'.cell? ⟨b', off' + k * 7 + 3, none⟩ = some (.int .i64 y2) := (World.cell?_of_block ((HBW.out.trans (hSw.mono HBW.out.size)).block _ HBM.out)).trans h3; have q4 : w'.cell? ⟨b', off' + k * 7 + 4, none⟩ = some (.string y3) := (World.cell?_of_block ((HBW.out.trans (hSw.mono HBW.out.size)).block _ HBM.out)).trans h4; have q5 : w'.cell? ⟨b', off' + k * 7 + 5, none⟩ = some (.string yn) := (World.cell?_of_block ((HBW.out.trans (hSw.mono HBW.out.size)).block _ HBM.out)).trans h5; have q6 : w'.cell? ⟨b', off' + k * 7 + 6, none⟩ = some (.slice yA yas.length yc) := (World.cell?_of_block ((HBW.out.trans (hSw.mono HBW.out.size)).block _ HBM.out)).trans h6; go_simp <;> with_reducible rfl
            simp only [Act.put, List.setIfInBounds_toArray, List.set_cons_zero, List.set_cons_succ]
            cases vc
            case false =>
             have HF : Hid (bo = false) := Lib.hid (by rw [HRX.out] <;> first | rfl | (simp; done))
             have HE : Hid (v4 = false) := Lib.hid (by rw [← HG2.out, HF.out]; rfl)
             have HFR : Hid (rs = false) := Lib.hid (by rw [HR.out, HE.out] <;> simp)
             refine heldCall 10 (some 118) (f := ?_) (args := ?_) rfl rfl (by kernel_rfl) (by rfl) ?_ ?_
             rotate_left 2
             ·go_simp <;> first | (constructor <;> with_reducible rfl) | with_reducible rfl
             (with_reducible refine (KC _ (HBW.out.trans (hHeld.mono HBW.out.size))).mono ?_)
             rintro _ z ⟨rfl, hz⟩
             refine ⟨_, rfl, keepAnd ?_ (fun hNew => ?_)⟩
             ·exact Below.trans hHeld (hz.mono hHeld.size)
             clear hHeld
             have hHeld := hNew
             clear hNew
             simp only [Act.put, List.setIfInBounds_toArray, List.set_cons_zero, List.set_cons_succ]
             refine heldTake 11 (some 119) (v := ?_) rfl rfl (by kernel_rfl) (by kernel_rfl) (by kernel_rfl) (by rfl) hHeld (fun _ _ _ h => h) ?_ ?_
             rotate_left
             ·intro w' hSw; (try dsimp only at hSw); go_simp <;> with_reducible rfl
             simp only [Act.put, List.setIfInBounds_toArray, List.set_cons_zero, List.set_cons_succ]
             refine wpAnyH_done (by kernel_rfl) ?_ _
             refine NoPanic.normal ?_
             have HZ : Hid (Below W.heap.size W _) := Lib.hid hHeld
             go_wp2_with fail
             go_ret
             exact ⟨by rw [HFR.out] <;> rfl, (HBW.out.trans (HZ.out.mono HBW.out.size))⟩
            case true =>
             have HF : Hid (bo = true) := Lib.hid (by rw [HRX.out] <;> first | rfl | (simp; done))
             have HN : Hid (sameL sX (xchks.drop (k + 1)) (ychks.drop (k + 1)) = v4) := Lib.hid (by rw [← HG2.out, HF.out]; simp)
             refine heldCall 10 (some 118) (f := ?_) (args := ?_) rfl rfl (by kernel_rfl) (by rfl) ?_ ?_
             rotate_left 2
             ·go_simp <;> first | (constructor <;> with_reducible rfl) | with_reducible rfl
             (with_reducible refine (KC _ (HBW.out.trans (hHeld.mono HBW.out.size))).mono ?_)
             rintro _ z ⟨rfl, hz⟩
             refine ⟨_, rfl, keepAnd ?_ (fun hNew => ?_)⟩
             ·exact Below.trans hHeld (hz.mono hHeld.size)
             clear hHeld
             have hHeld := hNew
             clear hNew
             simp only [Act.put, List.setIfInBounds_toArray, List.set_cons_zero, List.set_cons_succ]
             refine heldTake 11 (some 119) (v := ?_) rfl rfl (by kernel_rfl) (by kernel_rfl) (by kernel_rfl) (by rfl) hHeld (fun _ _ _ h => h) ?_ ?_
             rotate_left
             ·intro w' hSw; (try dsimp only at hSw); go_simp <;> with_reducible rfl
             simp only [Act.put, List.setIfInBounds_toArray, List.set_cons_zero, List.set_cons_succ]
             refine wpAnyH_done (by kernel_rfl) ?_ _
             refine NoPanic.normal ?_
             have HZ : Hid (Below W.heap.size W _) := Lib.hid hHeld
             go_wp2_with fail
             go_roundw
             case rel => exact ⟨k + 1, by go_num, hlt, HN, HZ⟩
             case measure => simp [intOf]; omega
         case pos =>
          have hlt' : k < yfors.length := by have := HL3.out; omega
          have hlt3 : (k : Int) < (xfors.length : Int) := by omega
          have hlt4 : (k : Int) < (yfors.length : Int) := by omega
          obtain ⟨b, off, rfl, hF, hcl⟩ := RdE.at_ (K := 2) (enc := RFor.enc) (fun _ => rfl) (by omega) Hx3.out hlt
          obtain ⟨b', off', rfl, hF', hcl'⟩ := RdE.at_ (K := 2) (enc := RFor.enc) (fun _ => rfl) (by omega) Hy3.out hlt'
          have HBL := Lib.hid hF
          have HBM := Lib.hid hF'
          have hcx := hcl k hlt
          have hcy := hcl' k hlt'
          have hg := HG.out
          rw [sameL_at hlt hlt'] at hg
          have ha := List.getElem_mem hlt
          have hb := List.getElem_mem hlt'
          obtain ⟨x, hx⟩ : ∃ x, x = xfors[k] := ⟨_, rfl⟩
          obtain ⟨y, hy⟩ : ∃ y, y = yfors[k] := ⟨_, rfl⟩
          rw [← hx] at hcx hg ha
          rw [← hy] at hcy hg hb
          obtain ⟨bo, hbo⟩ : ∃ bo, bo = sFor x y := ⟨_, rfl⟩
          rw [← hbo] at hg
          have HG2 := Lib.hid hg
          clear hx hy hcl hcl' hF hF' hg HG
          obtain ⟨xA, xc, xl, xt⟩ := x
          obtain ⟨yA, yc, yl, yt⟩ := y
          have g0 : w.cell? ⟨b, off + k * 2, none⟩ = some (.slice xA xl.length xc) := hcx 0 _ (by decide) rfl
          have g1 : w.cell? ⟨b, off + k * 2 + 1, none⟩ = some (.string xt) := hcx 1 _ (by decide) rfl
          have h0 : w.cell? ⟨b', off' + k * 2, none⟩ = some (.slice yA yl.length yc) := hcy 0 _ (by decide) rfl
          have h1 : w.cell? ⟨b', off' + k * 2 + 1, none⟩ = some (.string yt) := hcy 1 _ (by decide) rfl
          have HRX : Hid (bo = (eqS xt yt && sameL sInt xl yl)) := Lib.hid hbo
          clear hcx hcy hbo
          have KC : ∀ (V : World), Below w.heap.size w V → Calls Tryz.prog 178 #[.slice xA xl.length xc, .slice yA yl.length yc] V (fun e w' => e = .returned (.bool (sameL sInt xl yl)) ∧ Below V.heap.size V w') := fun V hV => likeInts_any _ _ xl yl V (RdE.below (HXI.out.forI _ ha) hV) (RdE.below (HYI.out.forI _ hb) hV)
          obtain ⟨vc, hvc⟩ : ∃ bo, bo = sameL sInt xl yl := ⟨_, rfl⟩
          rw [← hvc] at HRX
          simp only [← hvc] at KC
          clear hvc
          clear ha hb
          go_wp2_with fail
          refine wp_region_noPanic ?_
          refine wp_region_held_drew (S := (fun w' => Below W.heap.size W w')) (by kernel_rfl) ?_ (fun hHeld => ?_)
          ·exact HB15.out.drew
          refine heldTake 0 (some 72) (v := ?_) rfl rfl (by kernel_rfl) (by kernel_rfl) (by kernel_rfl) (by rfl) hHeld (fun _ _ _ h => h) ?_ ?_
          rotate_left
          ·intro w' hSw; (try dsimp only at hSw); go_simp <;> with_reducible rfl
          simp only [Act.put, List.setIfInBounds_toArray, List.set_cons_zero, List.set_cons_succ]
          refine heldTake 1 (some 73) (v := ?_) rfl rfl (by kernel_rfl) (by kernel_rfl) (by kernel_rfl) (by rfl) hHeld (fun _ _ _ h => h) ?_ ?_
          rotate_left
          ·intro w' hSw; (try dsimp only at hSw); have q0 := cell_of_row w' _ 3 _ _ _ (FX.out _ hSw); go_simp <;> with_reducible rfl
          simp only [Act.put, List.setIfInBounds_toArray, List.set_cons_zero, List.set_cons_succ]
          refine heldTake 2 (some 74) (v := ?_) rfl rfl (by kernel_rfl) (by kernel_rfl) (by kernel_rfl) (by rfl) hHeld (fun _ _ _ h => h) ?_ ?_
          rotate_left
          ·intro w' hSw; (try dsimp only at hSw); go_simp <;> with_reducible rfl
          simp only [Act.put, List.setIfInBounds_toArray, List.set_cons_zero, List.set_cons_succ]
          refine heldTake 3 (some 75) (v := ?_) rfl rfl (by kernel_rfl) (by kernel_rfl) (by kernel_rfl) (by rfl) hHeld (fun _ _ _ h => h) ?_ ?_
          rotate_left
          ·intro w' hSw; (try dsimp only at hSw); go_simp <;> with_reducible rfl
          simp only [Act.put, List.setIfInBounds_toArray, List.set_cons_zero, List.set_cons_succ]
          refine heldTake 4 (some 76) (v := ?_) rfl rfl (by kernel_rfl) (by kernel_rfl) (by kernel_rfl) (by rfl) hHeld (fun _ _ _ h => h) ?_ ?_
          rotate_left
          ·intro w' hSw; (try dsimp only at hSw); go_simp <;> with_reducible rfl
          simp only [Act.put, List.setIfInBounds_toArray, List.set_cons_zero, List.set_cons_succ]
          refine heldTake 5 (some 77) (v := ?_) rfl rfl (by kernel_rfl) (by kernel_rfl) (by kernel_rfl) (by rfl) hHeld (fun _ _ _ h => h) ?_ ?_
          rotate_left
          ·intro w' hSw; (try dsimp only at hSw); have q1 : w'.cell? ⟨b, off + k * 2 + 1, none⟩ = some (.string xt) := (World.cell?_of_block ((HBW.out.trans (hSw.mono HBW.out.size)).block _ HBL.out)).trans g1; go_simp <;> with_reducible rfl
          simp only [Act.put, List.setIfInBounds_toArray, List.set_cons_zero, List.set_cons_succ]
          refine heldTake 6 (some 78) (v := ?_) rfl rfl (by kernel_rfl) (by kernel_rfl) (by kernel_rfl) (by rfl) hHeld (fun _ _ _ h => h) ?_ ?_
          rotate_left
          ·intro w' hSw; (try dsimp only at hSw); go_simp <;> with_reducible rfl
          simp only [Act.put, List.setIfInBounds_toArray, List.set_cons_zero, List.set_cons_succ]
          refine heldTake 7 (some 79) (v := ?_) rfl rfl (by kernel_rfl) (by kernel_rfl) (by kernel_rfl) (by rfl) hHeld (fun _ _ _ h => h) ?_ ?_
          rotate_left
          ·intro w' hSw; (try dsimp only at hSw); have q0 := cell_of_row w' _ 3 _ _ _ (FY.out _ hSw); go_simp <;> with_reducible rfl
          simp only [Act.put, List.setIfInBounds_toArray, List.set_cons_zero, List.set_cons_succ]
          refine heldTake 8 (some 80) (v := ?_) rfl rfl (by kernel_rfl) (by kernel_rfl) (by kernel_rfl) (by rfl) hHeld (fun _ _ _ h => h) ?_ ?_
          rotate_left
          ·intro w' hSw; (try dsimp only at hSw); go_simp <;> with_reducible rfl
          simp only [Act.put, List.setIfInBounds_toArray, List.set_cons_zero, List.set_cons_succ]
          refine heldTake 9 (some 81) (v := ?_) rfl rfl (by kernel_rfl) (by kernel_rfl) (by kernel_rfl) (by rfl) hHeld (fun _ _ _ h => h) ?_ ?_
          rotate_left
          ·intro w' hSw; (try dsimp only at hSw); go_simp <;> with_reducible rfl
          simp only [Act.put, List.setIfInBounds_toArray, List.set_cons_zero, List.set_cons_succ]
          refine heldTake 10 (some 82) (v := ?_) rfl rfl (by kernel_rfl) (by kernel_rfl) (by kernel_rfl) (by rfl) hHeld (fun _ _ _ h => h) ?_ ?_
          rotate_left
          ·intro w' hSw; (try dsimp only at hSw); go_simp <;> with_reducible rfl
          simp only [Act.put, List.setIfInBounds_toArray, List.set_cons_zero, List.set_cons_succ]
          refine heldTake 11 (some 83) (v := ?_) rfl rfl (by kernel_rfl) (by kernel_rfl) (by kernel_rfl) (by rfl) hHeld (fun _ _ _ h => h) ?_ ?_
          rotate_left
          ·intro w' hSw; (try dsimp only at hSw); have q1 : w'.cell? ⟨b', off' + k * 2 + 1, none⟩ = some (.string yt) := (World.cell?_of_block ((HBW.out.trans (hSw.mono HBW.out.size)).block _ HBM.out)).trans h1; go_simp <;> with_reducible rfl
          simp only [Act.put, List.setIfInBounds_toArray, List.set_cons_zero, List.set_cons_succ]
          cases ee17 : (xt.toList == yt.toList)
          case false =>
           have gg17 : Hid (eqS xt yt = false) := Lib.hid ee17
           have ff17 : (xt.toList != yt.toList) = true := by rw [bne, ee17]; rfl
           have HF : Hid (bo = false) := Lib.hid (by rw [HRX.out, gg17.out] <;> first | rfl | (simp; done))
           have HE : Hid (v3 = false) := Lib.hid (by rw [← HG2.out, HF.out]; rfl)
           have HFR : Hid (rs = false) := Lib.hid (by rw [HR.out, HE.out] <;> simp)
           refine heldTake 12 (some 84) (v := ?_) rfl rfl (by kernel_rfl) (by kernel_rfl) (by kernel_rfl) (by rfl) hHeld (fun _ _ _ h => h) ?_ ?_
           rotate_left
           ·intro w' hSw; (try dsimp only at hSw); go_simp <;> with_reducible rfl
           simp only [Act.put, List.setIfInBounds_toArray, List.set_cons_zero, List.set_cons_succ]
           refine heldTake 13 (some 85) (v := ?_) rfl rfl (by kernel_rfl) (by kernel_rfl) (by kernel_rfl) (by rfl) hHeld (fun _ _ _ h => h) ?_ ?_
           rotate_left
           ·intro w' hSw; (try dsimp only at hSw); go_simp <;> with_reducible rfl
           simp only [Act.put, List.setIfInBounds_toArray, List.set_cons_zero, List.set_cons_succ]
           refine heldSkip 14 (some 86) rfl rfl (by kernel_rfl) (by kernel_rfl) (by kernel_rfl) (by rfl) hHeld (fun _ _ _ h => h) ?_
           simp only [Act.put, List.setIfInBounds_toArray, List.set_cons_zero, List.set_cons_succ]
           refine heldSkip 15 (some 87) rfl rfl (by kernel_rfl) (by kernel_rfl) (by kernel_rfl) (by rfl) hHeld (fun _ _ _ h => h) ?_
           simp only [Act.put, List.setIfInBounds_toArray, List.set_cons_zero, List.set_cons_succ]
           refine heldSkip 16 (some 88) rfl rfl (by kernel_rfl) (by kernel_rfl) (by kernel_rfl) (by rfl) hHeld (fun _ _ _ h => h) ?_
           simp only [Act.put, List.setIfInBounds_toArray, List.set_cons_zero, List.set_cons_succ]
           refine heldSkip 17 (some 89) rfl rfl (by kernel_rfl) (by kernel_rfl) (by kernel_rfl) (by rfl) hHeld (fun _ _ _ h => h) ?_
           simp only [Act.put, List.setIfInBounds_toArray, List.set_cons_zero, List.set_cons_succ]
           refine heldSkip 18 (some 90) rfl rfl (by kernel_rfl) (by kernel_rfl) (by kernel_rfl) (by rfl) hHeld (fun _ _ _ h => h) ?_
           simp only [Act.put, List.setIfInBounds_toArray, List.set_cons_zero, List.set_cons_succ]
           refine heldSkip 19 (some 91) rfl rfl (by kernel_rfl) (by kernel_rfl) (by kernel_rfl) (by rfl) hHeld (fun _ _ _ h => h) ?_
           simp only [Act.put, List.setIfInBounds_toArray, List.set_cons_zero, List.set_cons_succ]
           refine heldSkip 20 (some 92) rfl rfl (by kernel_rfl) (by kernel_rfl) (by kernel_rfl) (by rfl) hHeld (fun _ _ _ h => h) ?_
           simp only [Act.put, List.setIfInBounds_toArray, List.set_cons_zero, List.set_cons_succ]
           refine heldSkip 21 (some 93) rfl rfl (by kernel_rfl) (by kernel_rfl) (by kernel_rfl) (by rfl) hHeld (fun _ _ _ h => h) ?_
           simp only [Act.put, List.setIfInBounds_toArray, List.set_cons_zero, List.set_cons_succ]
           refine heldSkip 22 (some 94) rfl rfl (by kernel_rfl) (by kernel_rfl) (by kernel_rfl) (by rfl) hHeld (fun _ _ _ h => h) ?_
           simp only [Act.put, List.setIfInBounds_toArray, List.set_cons_zero, List.set_cons_succ]
           refine heldSkip 23 (some 95) rfl rfl (by kernel_rfl) (by kernel_rfl) (by kernel_rfl) (by rfl) hHeld (fun _ _ _ h => h) ?_
           simp only [Act.put, List.setIfInBounds_toArray, List.set_cons_zero, List.set_cons_succ]
           refine heldSkip 24 (some 96) rfl rfl (by kernel_rfl) (by kernel_rfl) (by kernel_rfl) (by rfl) hHeld (fun _ _ _ h => h) ?_
           simp only [Act.put, List.setIfInBounds_toArray, List.set_cons_zero, List.set_cons_succ]
           refine heldSkip 25 (some 97) rfl rfl (by kernel_rfl) (by kernel_rfl) (by kernel_rfl) (by rfl) hHeld (fun _ _ _ h => h) ?_
           simp only [Act.put, List.setIfInBounds_toArray, List.set_cons_zero, List.set_cons_succ]
           refine heldSkip 26 (some 98) rfl rfl (by kernel_rfl) (by kernel_rfl) (by kernel_rfl) (by rfl) hHeld (fun _ _ _ h => h) ?_
           simp only [Act.put, List.setIfInBounds_toArray, List.set_cons_zero, List.set_cons_succ]
           refine heldSkip 27 (some 99) rfl rfl (by kernel_rfl) (by kernel_rfl) (by kernel_rfl) (by rfl) hHeld (fun _ _ _ h => h) ?_
           simp only [Act.put, List.setIfInBounds_toArray, List.set_cons_zero, List.set_cons_succ]
           refine heldTake 28 (some 100) (v := ?_) rfl rfl (by kernel_rfl) (by kernel_rfl) (by kernel_rfl) (by rfl) hHeld (fun _ _ _ h => h) ?_ ?_
           rotate_left
           ·intro w' hSw; (try dsimp only at hSw); go_simp <;> with_reducible rfl
           simp only [Act.put, List.setIfInBounds_toArray, List.set_cons_zero, List.set_cons_succ]
           refine wpAnyH_done (by kernel_rfl) ?_ _
           refine NoPanic.normal ?_
           have HZ : Hid (Below W.heap.size W _) := Lib.hid hHeld
           go_wp2_with fail
           go_ret
           exact ⟨by rw [HFR.out] <;> rfl, (HBW.out.trans (HZ.out.mono HBW.out.size))⟩
          case true =>
           have GG17 : Hid (eqS xt yt = true) := Lib.hid ee17
           have ff17 : (xt.toList != yt.toList) = false := by rw [bne, ee17]; rfl
           refine heldTake 12 (some 84) (v := ?_) rfl rfl (by kernel_rfl) (by kernel_rfl) (by kernel_rfl) (by rfl) hHeld (fun _ _ _ h => h) ?_ ?_
           rotate_left
           ·intro w' hSw; (try dsimp only at hSw); go_simp <;> with_reducible rfl
           simp only [Act.put, List.setIfInBounds_toArray, List.set_cons_zero, List.set_cons_succ]
           refine heldTake 13 (some 85) (v := ?_) rfl rfl (by kernel_rfl) (by kernel_rfl) (by kernel_rfl) (by rfl) hHeld (fun _ _ _ h => h) ?_ ?_
           rotate_left
           ·intro w' hSw; (try dsimp only at hSw); go_simp <;> with_reducible rfl
           simp only [Act.put, List.setIfInBounds_toArray, List.set_cons_zero, List.set_cons_succ]
           refine heldTake 14 (some 86) (v := ?_) rfl rfl (by kernel_rfl) (by kernel_rfl) (by kernel_rfl) (by rfl) hHeld (fun _ _ _ h => h) ?_ ?_
           rotate_left
           ·intro w' hSw; (try dsimp only at hSw); go_simp <;> with_reducible rfl
           simp only [Act.put, List.setIfInBounds_toArray, List.set_cons_zero, List.set_cons_succ]
           refine heldTake 15 (some 87) (v := ?_) rfl rfl (by kernel_rfl) (by kernel_rfl) (by kernel_rfl) (by rfl) hHeld (fun _ _ _ h => h) ?_ ?_
           rotate_left
           ·intro w' hSw; (try dsimp only at hSw); have q0 := cell_of_row w' _ 3 _ _ _ (FX.out _ hSw); go_simp <;> with_reducible rfl
           simp only [Act.put, List.setIfInBounds_toArray, List.set_cons_zero, List.set_cons_succ]
           refine heldTake 16 (some 88) (v := ?_) rfl rfl (by kernel_rfl) (by kernel_rfl) (by kernel_rfl) (by rfl) hHeld (fun _ _ _ h => h) ?_ ?_
           rotate_left
           ·intro w' hSw; (try dsimp only at hSw); go_simp <;> with_reducible rfl
           simp only [Act.put, List.setIfInBounds_toArray, List.set_cons_zero, List.set_cons_succ]
           refine heldTake 17 (some 89) (v := ?_) rfl rfl (by kernel_rfl) (by kernel_rfl) (by kernel_rfl) (by rfl) hHeld (fun _ _ _ h => h) ?_ ?_
           rotate_left
           ·intro w' hSw; (try dsimp only at hSw); go_simp <;> with_reducible rfl
           simp only [Act.put, List.setIfInBounds_toArray, List.set_cons_zero, List.set_cons_succ]
           refine heldTake 18 (some 90) (v := ?_) rfl rfl (by kernel_rfl) (by kernel_rfl) (by kernel_rfl) (by rfl) hHeld (fun _ _ _ h => h) ?_ ?_
           rotate_left
           ·intro w' hSw; (try dsimp only at hSw); go_simp <;> with_reducible rfl
           simp only [Act.put, List.setIfInBounds_toArray, List.set_cons_zero, List.set_cons_succ]
           refine heldTake 19 (some 91) (v := ?_) rfl rfl (by kernel_rfl) (by kernel_rfl) (by kernel_rfl) (by rfl) hHeld (fun _ _ _ h => h) ?_ ?_
           rotate_left
           ·intro w' hSw; (try dsimp only at hSw); have q0 : w'.cell? ⟨b, off + k * 2, none⟩ = some (.slice xA xl.length xc) := (World.cell?_of_block ((HBW.out.trans (hSw.mono HBW.out.size)).block _ HBL.out)).trans g0; go_simp <;> with_reducible rfl
           simp only [Act.put, List.setIfInBounds_toArray, List.set_cons_zero, List.set_cons_succ]
           refine heldTake 20 (some 92) (v := ?_) rfl rfl (by kernel_rfl) (by kernel_rfl) (by kernel_rfl) (by rfl) hHeld (fun _ _ _ h => h) ?_ ?_
           rotate_left
           ·intro w' hSw; (try dsimp only at hSw); go_simp <;> with_reducible rfl
           simp only [Act.put, List.setIfInBounds_toArray, List.set_cons_zero, List.set_cons_succ]
           refine heldTake 21 (some 93) (v := ?_) rfl rfl (by kernel_rfl) (by kernel_rfl) (by kernel_rfl) (by rfl) hHeld (fun _ _ _ h => h) ?_ ?_
           rotate_left
           ·intro w' hSw; (try dsimp only at hSw); have q0 := cell_of_row w' _ 3 _ _ _ (FY.out _ hSw); go_simp <;> with_reducible rfl
           simp only [Act.put, List.setIfInBounds_toArray, List.set_cons_zero, List.set_cons_succ]
           refine heldTake 22 (some 94) (v := ?_) rfl rfl (by kernel_rfl) (by kernel_rfl) (by kernel_rfl) (by rfl) hHeld (fun _ _ _ h => h) ?_ ?_
           rotate_left
           ·intro w' hSw; (try dsimp only at hSw); go_simp <;> with_reducible rfl
           simp only [Act.put, List.setIfInBounds_toArray, List.set_cons_zero, List.set_cons_succ]
           refine heldTake 23 (some 95) (v := ?_) rfl rfl (by kernel_rfl) (by kernel_rfl) (by kernel_rfl) (by rfl) hHeld (fun _ _ _ h => h) ?_ ?_
           rotate_left
           ·intro w' hSw; (try dsimp only at hSw); go_simp <;> with_reducible rfl
           simp only [Act.put, List.setIfInBounds_toArray, List.set_cons_zero, List.set_cons_succ]
           refine heldTake 24 (some 96) (v := ?_) rfl rfl (by kernel_rfl) (by kernel_rfl) (by kernel_rfl) (by rfl) hHeld (fun _ _ _ h => h) ?_ ?_
           rotate_left
           ·intro w' hSw; (try dsimp only at hSw); go_simp <;> with_reducible rfl
           simp only [Act.put, List.setIfInBounds_toArray, List.set_cons_zero, List.set_cons_succ]
           refine heldTake 25 (some 97) (v := ?_) rfl rfl (by kernel_rfl) (by kernel_rfl) (by kernel_rfl) (by rfl) hHeld (fun _ _ _ h => h) ?_ ?_
           rotate_left
           ·intro w' hSw; (try dsimp only at hSw); have q0 : w'.cell? ⟨b', off' + k * 2, none⟩ = some (.slice yA yl.length yc) := (World.cell?_of_block ((HBW.out.trans (hSw.mono HBW.out.size)).block _ HBM.out)).trans h0; go_simp <;> with_reducible rfl
           simp only [Act.put, List.setIfInBounds_toArray, List.set_cons_zero, List.set_cons_succ]
           cases vc
           case false =>
            have HF : Hid (bo = false) := Lib.hid (by rw [HRX.out, GG17.out] <;> first | rfl | (simp; done))
            have HE : Hid (v3 = false) := Lib.hid (by rw [← HG2.out, HF.out]; rfl)
            have HFR : Hid (rs = false) := Lib.hid (by rw [HR.out, HE.out] <;> simp)
            refine heldCall 26 (some 98) (f := ?_) (args := ?_) rfl rfl (by kernel_rfl) (by rfl) ?_ ?_
            rotate_left 2
            ·go_simp <;> first | (constructor <;> with_reducible rfl) | with_reducible rfl
            (with_reducible refine (KC _ (HBW.out.trans (hHeld.mono HBW.out.size))).mono ?_)
            rintro _ z ⟨rfl, hz⟩
            refine ⟨_, rfl, keepAnd ?_ (fun hNew => ?_)⟩
            ·exact Below.trans hHeld (hz.mono hHeld.size)
            clear hHeld
            have hHeld := hNew
            clear hNew
            simp only [Act.put, List.setIfInBounds_toArray, List.set_cons_zero, List.set_cons_succ]
            refine heldTake 27 (some 99) (v := ?_) rfl rfl (by kernel_rfl) (by kernel_rfl) (by kernel_rfl) (by rfl) hHeld (fun _ _ _ h => h) ?_ ?_
            rotate_left
            ·intro w' hSw; (try dsimp only at hSw); go_simp <;> with_reducible rfl
            simp only [Act.put, List.setIfInBounds_toArray, List.set_cons_zero, List.set_cons_succ]
            refine heldTake 28 (some 100) (v := ?_) rfl rfl (by kernel_rfl) (by kernel_rfl) (by kernel_rfl) (by rfl) hHeld (fun _ _ _ h => h) ?_ ?_
            rotate_left
            ·intro w' hSw; (try dsimp only at hSw); go_simp <;> with_reducible rfl
            simp only [Act.put, List.setIfInBounds_toArray, List.set_cons_zero, List.set_cons_succ]
            refine wpAnyH_done (by kernel_rfl) ?_ _
            refine NoPanic.normal ?_
            have HZ : Hid (Below W.heap.size W _) := Lib.hid hHeld
            go_wp2_with fail
            go_ret
            exact ⟨by rw [HFR.out] <;> rfl, (HBW.out.trans (HZ.out.mono HBW.out.size))⟩
           case true =>
            have HF : Hid (bo = true) := Lib.hid (by rw [HRX.out, GG17.out] <;> first | rfl | (simp; done))
            have HN : Hid (sameL sFor (xfors.drop (k + 1)) (yfors.drop (k + 1)) = v3) := Lib.hid (by rw [← HG2.out, HF.out]; simp)
            refine heldCall 26 (some 98) (f := ?_) (args := ?_) rfl rfl (by kernel_rfl) (by rfl) ?_ ?_
            rotate_left 2
            ·go_simp <;> first | (constructor <;> with_reducible rfl) | with_reducible rfl
            (with_reducible refine (KC _ (HBW.out.trans (hHeld.mono HBW.out.size))).mono ?_)
            rintro _ z ⟨rfl, hz⟩
            refine ⟨_, rfl, keepAnd ?_ (fun hNew => ?_)⟩
            ·exact Below.trans hHeld (hz.mono hHeld.size)
            clear hHeld
            have hHeld := hNew
            clear hNew
            simp only [Act.put, List.setIfInBounds_toArray, List.set_cons_zero, List.set_cons_succ]
            refine heldTake 27 (some 99) (v := ?_) rfl rfl (by kernel_rfl) (by kernel_rfl) (by kernel_rfl) (by rfl) hHeld (fun _ _ _ h => h) ?_ ?_
            rotate_left
            ·intro w' hSw; (try dsimp only at hSw); go_simp <;> with_reducible rfl
            simp only [Act.put, List.setIfInBounds_toArray, List.set_cons_zero, List.set_cons_succ]
            refine heldTake 28 (some 100) (v := ?_) rfl rfl (by kernel_rfl) (by kernel_rfl) (by kernel_rfl) (by rfl) hHeld (fun _ _ _ h => h) ?_ ?_
            rotate_left
            ·intro w' hSw; (try dsimp only at hSw); go_simp <;> with_reducible rfl
            simp only [Act.put, List.setIfInBounds_toArray, List.set_cons_zero, List.set_cons_succ]
            refine wpAnyH_done (by kernel_rfl) ?_ _
            refine NoPanic.normal ?_
            have HZ : Hid (Below W.heap.size W _) := Lib.hid hHeld
            go_wp2_with fail
            go_roundw
            case rel => exact ⟨k + 1, by go_num, hlt, HN, HZ⟩
            case measure => simp [intOf]; omega
       case pos =>
        have hlt' : k < ycols.length := by have := HL1.out; omega
        have hlt3 : (k : Int) < (xcols.length : Int) := by omega
        have hlt4 : (k : Int) < (ycols.length : Int) := by omega
        obtain ⟨b, off, rfl, hF, hcl⟩ := RdE.at_ (K := 3) (enc := RCol.enc) (fun _ => rfl) (by omega) Hx1.out hlt
        obtain ⟨b', off', rfl, hF', hcl'⟩ := RdE.at_ (K := 3) (enc := RCol.enc) (fun _ => rfl) (by omega) Hy1.out hlt'
        have HBL := Lib.hid hF
        have HBM := Lib.hid hF'
        have hcx := hcl k hlt
        have hcy := hcl' k hlt'
        have hg := HG.out
        rw [sameL_at hlt hlt'] at hg
        have ha := List.getElem_mem hlt
        have hb := List.getElem_mem hlt'
        obtain ⟨x, hx⟩ : ∃ x, x = xcols[k] := ⟨_, rfl⟩
        obtain ⟨y, hy⟩ : ∃ y, y = ycols[k] := ⟨_, rfl⟩
        rw [← hx] at hcx hg ha
        rw [← hy] at hcy hg hb
        obtain ⟨bo, hbo⟩ : ∃ bo, bo = sCol x y := ⟨_, rfl⟩
        rw [← hbo] at hg
        have HG2 := Lib.hid hg
        clear hx hy hcl hcl' hF hF' hg HG
        obtain ⟨x1, x2, x3⟩ := x
        obtain ⟨y1, y2, y3⟩ := y
        have g0 : w.cell? ⟨b, off + k * 3, none⟩ = some (.string x1) := hcx 0 _ (by decide) rfl
        have g1 : w.cell? ⟨b, off + k * 3 + 1, none⟩ = some (.int .i64 x2) := hcx 1 _ (by decide) rfl
        have g2 : w.cell? ⟨b, off + k * 3 + 2, none⟩ = some (.bool x3) := hcx 2 _ (by decide) rfl
        have h0 : w.cell? ⟨b', off' + k * 3, none⟩ = some (.string y1) := hcy 0 _ (by decide) rfl
        have h1 : w.cell? ⟨b', off' + k * 3 + 1, none⟩ = some (.int .i64 y2) := hcy 1 _ (by decide) rfl
        have h2 : w.cell? ⟨b', off' + k * 3 + 2, none⟩ = some (.bool y3) := hcy 2 _ (by decide) rfl
        have HRX : Hid (bo = (eqS x1 y1 && (decide (x2 = y2) && (x3 == y3)))) := Lib.hid hbo
        clear hcx hcy hbo
        clear ha hb
        go_wp2_with fail
        refine wp_region_noPanic ?_
        refine wp_region_held_drew (S := (fun w' => Below W.heap.size W w')) (by kernel_rfl) ?_ (fun hHeld => ?_)
        ·exact HB14.out.drew
        refine heldTake 0 (some 54) (v := ?_) rfl rfl (by kernel_rfl) (by kernel_rfl) (by kernel_rfl) (by rfl) hHeld (fun _ _ _ h => h) ?_ ?_
        rotate_left
        ·intro w' hSw; (try dsimp only at hSw); go_simp <;> with_reducible rfl
        simp only [Act.put, List.setIfInBounds_toArray, List.set_cons_zero, List.set_cons_succ]
        refine heldTake 1 (some 55) (v := ?_) rfl rfl (by kernel_rfl) (by kernel_rfl) (by kernel_rfl) (by rfl) hHeld (fun _ _ _ h => h) ?_ ?_
        rotate_left
        ·intro w' hSw; (try dsimp only at hSw); have q0 := cell_of_row w' _ 1 _ _ _ (FX.out _ hSw); go_simp <;> with_reducible rfl
        simp only [Act.put, List.setIfInBounds_toArray, List.set_cons_zero, List.set_cons_succ]
        refine heldTake 2 (some 56) (v := ?_) rfl rfl (by kernel_rfl) (by kernel_rfl) (by kernel_rfl) (by rfl) hHeld (fun _ _ _ h => h) ?_ ?_
        rotate_left
        ·intro w' hSw; (try dsimp only at hSw); go_simp <;> with_reducible rfl
        simp only [Act.put, List.setIfInBounds_toArray, List.set_cons_zero, List.set_cons_succ]
        refine heldTake 3 (some 57) (v := ?_) rfl rfl (by kernel_rfl) (by kernel_rfl) (by kernel_rfl) (by rfl) hHeld (fun _ _ _ h => h) ?_ ?_
        rotate_left
        ·intro w' hSw; (try dsimp only at hSw); go_simp <;> with_reducible rfl
        simp only [Act.put, List.setIfInBounds_toArray, List.set_cons_zero, List.set_cons_succ]
        refine heldTake 4 (some 58) (v := ?_) rfl rfl (by kernel_rfl) (by kernel_rfl) (by kernel_rfl) (by rfl) hHeld (fun _ _ _ h => h) ?_ ?_
        rotate_left
        ·intro w' hSw; (try dsimp only at hSw); have q0 : w'.cell? ⟨b, off + k * 3, none⟩ = some (.string x1) := (World.cell?_of_block ((HBW.out.trans (hSw.mono HBW.out.size)).block _ HBL.out)).trans g0; have q1 : w'.cell? ⟨b, off + k * 3 + 1, none⟩ = some (.int .i64 x2) := (World.cell?_of_block ((HBW.out.trans (hSw.mono HBW.out.size)).block _ HBL.out)).trans g1; have q2 : w'.cell? ⟨b, off + k * 3 + 2, none⟩ = some (.bool x3) := (World.cell?_of_block ((HBW.out.trans (hSw.mono HBW.out.size)).block _ HBL.out)).trans g2; go_simp <;> with_reducible rfl
        simp only [Act.put, List.setIfInBounds_toArray, List.set_cons_zero, List.set_cons_succ]
        refine heldTake 5 (some 59) (v := ?_) rfl rfl (by kernel_rfl) (by kernel_rfl) (by kernel_rfl) (by rfl) hHeld (fun _ _ _ h => h) ?_ ?_
        rotate_left
        ·intro w' hSw; (try dsimp only at hSw); go_simp <;> with_reducible rfl
        simp only [Act.put, List.setIfInBounds_toArray, List.set_cons_zero, List.set_cons_succ]
        refine heldTake 6 (some 60) (v := ?_) rfl rfl (by kernel_rfl) (by kernel_rfl) (by kernel_rfl) (by rfl) hHeld (fun _ _ _ h => h) ?_ ?_
        rotate_left
        ·intro w' hSw; (try dsimp only at hSw); have q0 := cell_of_row w' _ 1 _ _ _ (FY.out _ hSw); go_simp <;> with_reducible rfl
        simp only [Act.put, List.setIfInBounds_toArray, List.set_cons_zero, List.set_cons_succ]
        refine heldTake 7 (some 61) (v := ?_) rfl rfl (by kernel_rfl) (by kernel_rfl) (by kernel_rfl) (by rfl) hHeld (fun _ _ _ h => h) ?_ ?_
        rotate_left
        ·intro w' hSw; (try dsimp only at hSw); go_simp <;> with_reducible rfl
        simp only [Act.put, List.setIfInBounds_toArray, List.set_cons_zero, List.set_cons_succ]
        refine heldTake 8 (some 62) (v := ?_) rfl rfl (by kernel_rfl) (by kernel_rfl) (by kernel_rfl) (by rfl) hHeld (fun _ _ _ h => h) ?_ ?_
        rotate_left
        ·intro w' hSw; (try dsimp only at hSw); go_simp <;> with_reducible rfl
        simp only [Act.put, List.setIfInBounds_toArray, List.set_cons_zero, List.set_cons_succ]
        refine heldTake 9 (some 63) (v := ?_) rfl rfl (by kernel_rfl) (by kernel_rfl) (by kernel_rfl) (by rfl) hHeld (fun _ _ _ h => h) ?_ ?_
        rotate_left
        ·intro w' hSw; (try dsimp only at hSw); have q0 : w'.cell? ⟨b', off' + k * 3, none⟩ = some (.string y1) := (World.cell?_of_block ((HBW.out.trans (hSw.mono HBW.out.size)).block _ HBM.out)).trans h0; have q1 : w'.cell? ⟨b', off' + k * 3 + 1, none⟩ = some (.int .i64 y2) := (World.cell?_of_block ((HBW.out.trans (hSw.mono HBW.out.size)).block _ HBM.out)).trans h1; have q2 : w'.cell? ⟨b', off' + k * 3 + 2, none⟩ = some (.bool y3) := (World.cell?_of_block ((HBW.out.trans (hSw.mono HBW.out.size)).block _ HBM.out)).trans h2; go_simp <;> with_reducible rfl
        simp only [Act.put, List.setIfInBounds_toArray, List.set_cons_zero, List.set_cons_succ]
        cases ee18 : (x1.toList == y1.toList)
        case false =>
         have gg18 : Hid (eqS x1 y1 = false) := Lib.hid ee18
         have ff18 : (x1.toList != y1.toList) = true := by rw [bne, ee18]; rfl
         have HF : Hid (bo = false) := Lib.hid (by rw [HRX.out, gg18.out] <;> first | rfl | (simp; done))
         have HE : Hid (v1 = false) := Lib.hid (by rw [← HG2.out, HF.out]; rfl)
         have HFR : Hid (rs = false) := Lib.hid (by rw [HR.out, HE.out] <;> simp)
         refine heldTake 10 (some 64) (v := ?_) rfl rfl (by kernel_rfl) (by kernel_rfl) (by kernel_rfl) (by rfl) hHeld (fun _ _ _ h => h) ?_ ?_
         rotate_left
         ·intro w' hSw; (try dsimp only at hSw); go_simp <;> with_reducible rfl
         simp only [Act.put, List.setIfInBounds_toArray, List.set_cons_zero, List.set_cons_succ]
         refine wpAnyH_done (by kernel_rfl) ?_ _
         refine NoPanic.normal ?_
         have HZ : Hid (Below W.heap.size W _) := Lib.hid hHeld
         go_wp2_with fail
         go_ret
         exact ⟨by rw [HFR.out] <;> rfl, (HBW.out.trans (HZ.out.mono HBW.out.size))⟩
        case true =>
         have GG18 : Hid (eqS x1 y1 = true) := Lib.hid ee18
         have ff18 : (x1.toList != y1.toList) = false := by rw [bne, ee18]; rfl
         by_cases tt19 : x2 = y2
         case neg =>
          have gg19 : Hid (decide (x2 = y2) = false) := Lib.hid (decide_eq_false tt19)
          have ee19 : (x2 == y2) = false := by simpa using tt19
          have ff19 : (x2 != y2) = true := by simpa using tt19
          have HF : Hid (bo = false) := Lib.hid (by rw [HRX.out, GG18.out, gg19.out] <;> first | rfl | (simp; done))
          have HE : Hid (v1 = false) := Lib.hid (by rw [← HG2.out, HF.out]; rfl)
          have HFR : Hid (rs = false) := Lib.hid (by rw [HR.out, HE.out] <;> simp)
          refine heldTake 10 (some 64) (v := ?_) rfl rfl (by kernel_rfl) (by kernel_rfl) (by kernel_rfl) (by rfl) hHeld (fun _ _ _ h => h) ?_ ?_
          rotate_left
          ·intro w' hSw; (try dsimp only at hSw); go_simp <;> with_reducible rfl
          simp only [Act.put, List.setIfInBounds_toArray, List.set_cons_zero, List.set_cons_succ]
          refine wpAnyH_done (by kernel_rfl) ?_ _
          refine NoPanic.normal ?_
          have HZ : Hid (Below W.heap.size W _) := Lib.hid hHeld
          go_wp2_with fail
          go_ret
          exact ⟨by rw [HFR.out] <;> rfl, (HBW.out.trans (HZ.out.mono HBW.out.size))⟩
         case pos =>
          have GG19 : Hid (decide (x2 = y2) = true) := Lib.hid (decide_eq_true tt19)
          have ee19 : (x2 == y2) = true := by simpa using tt19
          have ff19 : (x2 != y2) = false := by simpa using tt19
          clear tt19
          cases ee20 : (x3 == y3)
          case false =>
           have GG20 := Lib.hid ee20
           have ff20 : (x3 != y3) = true := by rw [bne, ee20]; rfl
           have HF : Hid (bo = false) := Lib.hid (by rw [HRX.out, GG18.out, GG19.out, GG20.out] <;> first | rfl | (simp; done))
           have HE : Hid (v1 = false) := Lib.hid (by rw [← HG2.out, HF.out]; rfl)
           have HFR : Hid (rs = false) := Lib.hid (by rw [HR.out, HE.out] <;> simp)
           refine heldTake 10 (some 64) (v := ?_) rfl rfl (by kernel_rfl) (by kernel_rfl) (by kernel_rfl) (by rfl) hHeld (fun _ _ _ h => h) ?_ ?_
           rotate_left
           ·intro w' hSw; (try dsimp only at hSw); go_simp <;> with_reducible rfl
           simp only [Act.put, List.setIfInBounds_toArray, List.set_cons_zero, List.set_cons_succ]
           refine wpAnyH_done (by kernel_rfl) ?_ _
           refine NoPanic.normal ?_
           have HZ : Hid (Below W.heap.size W _) := Lib.hid hHeld
           go_wp2_with fail
           go_ret
           exact ⟨by rw [HFR.out] <;> rfl, (HBW.out.trans (HZ.out.mono HBW.out.size))⟩
          case true =>
           have GG20 := Lib.hid ee20
           have ff20 : (x3 != y3) = false := by rw [bne, ee20]; rfl
           refine heldTake 10 (some 64) (v := ?_) rfl rfl (by kernel_rfl) (by kernel_rfl) (by kernel_rfl) (by rfl) hHeld (fun _ _ _ h => h) ?_ ?_
           rotate_left
           ·intro w' hSw; (try dsimp only at hSw); go_simp <;> with_reducible rfl
           simp only [Act.put, List.setIfInBounds_toArray, List.set_cons_zero, List.set_cons_succ]
           refine wpAnyH_done (by kernel_rfl) ?_ _
           refine NoPanic.normal ?_
           have HF : Hid (bo = true) := Lib.hid (by rw [HRX.out, GG18.out, GG19.out, GG20.out] <;> first | rfl | (simp; done))
           have HN : Hid (sameL sCol (xcols.drop (k + 1)) (ycols.drop (k + 1)) = v1) := Lib.hid (by rw [← HG2.out, HF.out]; simp)
           have HZ : Hid (Below W.heap.size W _) := Lib.hid hHeld
           go_wp2_with fail
           go_roundw
           case rel => exact ⟨k + 1, by go_num, hlt, HN, HZ⟩
           case measure => simp [intOf]; omega
set_option maxRecDepth 1000000 in
set_option maxHeartbeats 16000000 in
theorem refSameEntries_any (pents qents : Value) (xents yents : List REn) (w : World) (hxents : RdE 16 REn.enc w (· < w.heap.size) pents xents) (hyents : RdE 16 REn.enc w (· < w.heap.size) qents yents) (hxi : ∀ n ∈ xents, n.is w (· < w.heap.size)) (hyi : ∀ n ∈ yents, n.is w (· < w.heap.size)) (kx : ∀ n ∈ xents, ∀ e ∈ n.create.chks, exAll w (· < w.heap.size) e) (ky : ∀ n ∈ yents, ∀ e ∈ n.create.chks, exAll w (· < w.heap.size) e) :
  Calls Tryz.prog 85 #[pents, qents] w fun e w' => e = .returned (.bool (sameL sEnt xents yents)) ∧ Below w.heap.size w w' := by
 obtain ⟨Aents, cents, rfl, aents, nents, zents⟩ := Rd.open_ (show Rd w _ 16 pents xents.length (xents.flatMap REn.enc) from hxents)
 obtain ⟨Bents, dents, rfl, bents, ments, y'ents⟩ := Rd.open_ (show Rd w _ 16 qents yents.length (yents.flatMap REn.enc) from hyents)
 unfold maxLen at nents ments
 have Hx1 := Lib.hid hxents
 have Hy1 := Lib.hid hyents
 clear zents y'ents hxents hyents
 obtain ⟨rs, hrs⟩ : ∃ r, r = (sameL sEnt xents yents) := ⟨_, rfl⟩
 rw [← hrs]
 have HR := Lib.hid hrs
 clear hrs
 have HC0 : Hid (Below w.heap.size w w) := Lib.hid (Below.refl _ _)
 obtain ⟨v1, hv1⟩ : ∃ bo, bo = sameL sEnt xents yents := ⟨_, rfl⟩
 rw [← hv1] at HR
 have Hv1 := Lib.hid hv1
 clear hv1
 have HXI := Lib.hid hxi
 have HYI := Lib.hid hyi
 have HKX := Lib.hid kx
 have HKY := Lib.hid ky
 clear hxi hyi kx ky
 by_cases tt21 : xents.length = yents.length
 case neg =>
  have gg21 : v1 = false := by rw [Hv1.out]; exact sameL_len tt21
  have ss21 : ¬ (xents.length : Int) = (yents.length : Int) := by omega
  have ff21 : ((xents.length : Int) != (yents.length : Int)) = true := by simpa using ss21
  have HF : Hid (rs = false) := Lib.hid (by rw [HR.out, gg21] <;> simp)
  go_enter Tryz.func85, Tryz.ntmps85
  go_wp2_with fail
  go_ret
  exact ⟨by rw [HF.out] <;> first | rfl | (simp; done), HC0.out⟩
 case pos =>
  have HL1 := Lib.hid tt21
  have ss21 : (xents.length : Int) = (yents.length : Int) := by omega
  have ff21 : ((xents.length : Int) != (yents.length : Int)) = false := by simpa using ss21
  clear tt21 ss21
  go_enter Tryz.func85, Tryz.ntmps85
  go_wp2_with fail
  go_loopw [13] (fun i wr => ∃ k : Nat, i = .int .i64 (k : Int) ∧ k ≤ xents.length ∧ Hid (sameL sEnt (xents.drop k) (yents.drop k) = v1) ∧ Hid (Below w.heap.size w wr)) (fun i _ => xents.length - (intOf i).toNat)
  case atStart => exact ⟨0, rfl, Nat.zero_le _, Lib.hid Hv1.out.symm, HC0⟩
  case round =>
   obtain ⟨k, rfl, hk, HG, HB22⟩ := hrel
   obtain ⟨wi22, rfl⟩ : ∃ wi : World, wi = wr := ⟨_, rfl⟩
   by_cases hlt : k < xents.length
   case neg =>
    have hlt3 : ¬ (k : Int) < (xents.length : Int) := by omega
    have HT22 : Hid (v1 = true) := Lib.hid (by rw [← HG.out]; exact sameL_end (by omega) (by have := HL1.out; omega))
    have HF : Hid (rs = true) := Lib.hid (by rw [HR.out, HT22.out] <;> first | rfl | (simp; done))
    go_wp2_with fail
    go_ret
    exact ⟨by rw [HF.out] <;> first | rfl | (simp; done), HB22.out⟩
   case pos =>
    have hlt' : k < yents.length := by have := HL1.out; omega
    have hlt3 : (k : Int) < (xents.length : Int) := by omega
    have hlt4 : (k : Int) < (yents.length : Int) := by omega
    obtain ⟨b, off, rfl, hF, hcl⟩ := RdE.at_ (K := 16) (enc := REn.enc) (fun _ => rfl) (by omega) Hx1.out hlt
    obtain ⟨b', off', rfl, hF', hcl'⟩ := RdE.at_ (K := 16) (enc := REn.enc) (fun _ => rfl) (by omega) Hy1.out hlt'
    have HBL := Lib.hid hF
    have HBM := Lib.hid hF'
    have hcx := hcl k hlt
    have hcy := hcl' k hlt'
    have hg := HG.out
    rw [sameL_at hlt hlt'] at hg
    have ha := List.getElem_mem hlt
    have hb := List.getElem_mem hlt'
    obtain ⟨x, hx⟩ : ∃ x, x = xents[k] := ⟨_, rfl⟩
    obtain ⟨y, hy⟩ : ∃ y, y = yents[k] := ⟨_, rfl⟩
    rw [← hx] at hcx hg ha
    rw [← hy] at hcy hg hb
    obtain ⟨bo, hbo⟩ : ∃ bo, bo = sEnt x y := ⟨_, rfl⟩
    rw [← hbo] at hg
    have HG2 := Lib.hid hg
    clear hx hy hcl hcl' hF hF' hg HG
    obtain ⟨xtm, xtb, ⟨xnm, xcolA, xcolC, xcols, xkeyA, xkeyC, xkey, xforA, xforC, xfors, xchkA, xchkC, xchks⟩, ⟨x1, x2, x3, x4, x5, x6, ⟨x7, x8, x9⟩⟩⟩ := x
    obtain ⟨ytm, ytb, ⟨ynm, ycolA, ycolC, ycols, ykeyA, ykeyC, ykey, yforA, yforC, yfors, ychkA, ychkC, ychks⟩, ⟨y1, y2, y3, y4, y5, y6, ⟨y7, y8, y9⟩⟩⟩ := y
    have g0 : w.cell? ⟨b, off + k * 16, none⟩ = some (.int .i64 xtm) := hcx 0 _ (by decide) rfl
    have g1 : w.cell? ⟨b, off + k * 16 + 1, none⟩ = some (.string xtb) := hcx 1 _ (by decide) rfl
    have g2 : w.cell? ⟨b, off + k * 16 + 2, none⟩ = some (.string xnm) := hcx 2 _ (by decide) rfl
    have g3 : w.cell? ⟨b, off + k * 16 + 3, none⟩ = some (.slice xcolA xcols.length xcolC) := hcx 3 _ (by decide) rfl
    have g4 : w.cell? ⟨b, off + k * 16 + 4, none⟩ = some (.slice xkeyA xkey.length xkeyC) := hcx 4 _ (by decide) rfl
    have g5 : w.cell? ⟨b, off + k * 16 + 5, none⟩ = some (.slice xforA xfors.length xforC) := hcx 5 _ (by decide) rfl
    have g6 : w.cell? ⟨b, off + k * 16 + 6, none⟩ = some (.slice xchkA xchks.length xchkC) := hcx 6 _ (by decide) rfl
    have g7 : w.cell? ⟨b, off + k * 16 + 7, none⟩ = some (.int .i64 x1) := hcx 7 _ (by decide) rfl
    have g8 : w.cell? ⟨b, off + k * 16 + 8, none⟩ = some (.string x2) := hcx 8 _ (by decide) rfl
    have g9 : w.cell? ⟨b, off + k * 16 + 9, none⟩ = some (.string x3) := hcx 9 _ (by decide) rfl
    have g10 : w.cell? ⟨b, off + k * 16 + 10, none⟩ = some (.string x4) := hcx 10 _ (by decide) rfl
    have g11 : w.cell? ⟨b, off + k * 16 + 11, none⟩ = some (.int .i64 x5) := hcx 11 _ (by decide) rfl
    have g12 : w.cell? ⟨b, off + k * 16 + 12, none⟩ = some (.bool x6) := hcx 12 _ (by decide) rfl
    have g13 : w.cell? ⟨b, off + k * 16 + 13, none⟩ = some (.int .i64 x7) := hcx 13 _ (by decide) rfl
    have g14 : w.cell? ⟨b, off + k * 16 + 14, none⟩ = some (.int .i64 x8) := hcx 14 _ (by decide) rfl
    have g15 : w.cell? ⟨b, off + k * 16 + 15, none⟩ = some (.string x9) := hcx 15 _ (by decide) rfl
    have h0 : w.cell? ⟨b', off' + k * 16, none⟩ = some (.int .i64 ytm) := hcy 0 _ (by decide) rfl
    have h1 : w.cell? ⟨b', off' + k * 16 + 1, none⟩ = some (.string ytb) := hcy 1 _ (by decide) rfl
    have h2 : w.cell? ⟨b', off' + k * 16 + 2, none⟩ = some (.string ynm) := hcy 2 _ (by decide) rfl
    have h3 : w.cell? ⟨b', off' + k * 16 + 3, none⟩ = some (.slice ycolA ycols.length ycolC) := hcy 3 _ (by decide) rfl
    have h4 : w.cell? ⟨b', off' + k * 16 + 4, none⟩ = some (.slice ykeyA ykey.length ykeyC) := hcy 4 _ (by decide) rfl
    have h5 : w.cell? ⟨b', off' + k * 16 + 5, none⟩ = some (.slice yforA yfors.length yforC) := hcy 5 _ (by decide) rfl
    have h6 : w.cell? ⟨b', off' + k * 16 + 6, none⟩ = some (.slice ychkA ychks.length ychkC) := hcy 6 _ (by decide) rfl
    have h7 : w.cell? ⟨b', off' + k * 16 + 7, none⟩ = some (.int .i64 y1) := hcy 7 _ (by decide) rfl
    have h8 : w.cell? ⟨b', off' + k * 16 + 8, none⟩ = some (.string y2) := hcy 8 _ (by decide) rfl
    have h9 : w.cell? ⟨b', off' + k * 16 + 9, none⟩ = some (.string y3) := hcy 9 _ (by decide) rfl
    have h10 : w.cell? ⟨b', off' + k * 16 + 10, none⟩ = some (.string y4) := hcy 10 _ (by decide) rfl
    have h11 : w.cell? ⟨b', off' + k * 16 + 11, none⟩ = some (.int .i64 y5) := hcy 11 _ (by decide) rfl
    have h12 : w.cell? ⟨b', off' + k * 16 + 12, none⟩ = some (.bool y6) := hcy 12 _ (by decide) rfl
    have h13 : w.cell? ⟨b', off' + k * 16 + 13, none⟩ = some (.int .i64 y7) := hcy 13 _ (by decide) rfl
    have h14 : w.cell? ⟨b', off' + k * 16 + 14, none⟩ = some (.int .i64 y8) := hcy 14 _ (by decide) rfl
    have h15 : w.cell? ⟨b', off' + k * 16 + 15, none⟩ = some (.string y9) := hcy 15 _ (by decide) rfl
    have HRX : Hid (bo = (decide (xtm = ytm) && (eqS xtb ytb && ((decide (x1 = y1) && (eqS x2 y2 && (eqS x3 y3 && (eqS x4 y4 && (decide (x5 = y5) && ((x6 == y6) && (decide (x7 = y7) && (decide (x8 = y8) && eqS x9 y9)))))))) && sTab ⟨xnm, xcolA, xcolC, xcols, xkeyA, xkeyC, xkey, xforA, xforC, xfors, xchkA, xchkC, xchks⟩ ⟨ynm, ycolA, ycolC, ycols, ykeyA, ykeyC, ykey, yforA, yforC, yfors, ychkA, ychkC, ychks⟩)))) := Lib.hid hbo
    clear hcx hcy hbo
    have KC : ∀ (V : World), Below w.heap.size w V → Calls Tryz.prog 180 #[.agg #[.string xnm, .slice xcolA xcols.length xcolC, .slice xkeyA xkey.length xkeyC, .slice xforA xfors.length xforC, .slice xchkA xchks.length xchkC], .agg #[.string ynm, .slice ycolA ycols.length ycolC, .slice ykeyA ykey.length ykeyC, .slice yforA yfors.length yforC, .slice ychkA ychks.length ychkC]] V (fun e w' => e = .returned (.bool (sTab ⟨xnm, xcolA, xcolC, xcols, xkeyA, xkeyC, xkey, xforA, xforC, xfors, xchkA, xchkC, xchks⟩ ⟨ynm, ycolA, ycolC, ycols, ykeyA, ykeyC, ykey, yforA, yforC, yfors, ychkA, ychkC, ychks⟩)) ∧ Below V.heap.size V w') := fun V hV => refSameTable_any ⟨xnm, xcolA, xcolC, xcols, xkeyA, xkeyC, xkey, xforA, xforC, xfors, xchkA, xchkC, xchks⟩ ⟨ynm, ycolA, ycolC, ycols, ykeyA, ykeyC, ykey, yforA, yforC, yfors, ychkA, ychkC, ychks⟩ V ((HXI.out _ ha).create.below hV) ((HYI.out _ hb).create.below hV) (fun e he => (HKX.out _ ha e he).blw hV) (fun e he => (HKY.out _ hb e he).blw hV)
    obtain ⟨vc, hvc⟩ : ∃ bo, bo = sTab ⟨xnm, xcolA, xcolC, xcols, xkeyA, xkeyC, xkey, xforA, xforC, xfors, xchkA, xchkC, xchks⟩ ⟨ynm, ycolA, ycolC, ycols, ykeyA, ykeyC, ykey, yforA, yforC, yfors, ychkA, ychkC, ychks⟩ := ⟨_, rfl⟩
    rw [← hvc] at HRX
    simp only [← hvc] at KC
    clear hvc
    clear ha hb
    go_wp2_with fail
    refine wp_region_noPanic ?_
    refine wp_region_held_drew (S := (fun w' => Below w.heap.size w w')) (by kernel_rfl) ?_ (fun hHeld => ?_)
    ·exact HB22.out.drew
    refine heldTake 0 (some 16) (v := ?_) rfl rfl (by kernel_rfl) (by kernel_rfl) (by kernel_rfl) (by rfl) hHeld (fun _ _ _ h => h) ?_ ?_
    rotate_left
    ·intro w' hSw; (try dsimp only at hSw); go_simp <;> with_reducible rfl
    simp only [Act.put, List.setIfInBounds_toArray, List.set_cons_zero, List.set_cons_succ]
    refine heldTake 1 (some 17) (v := ?_) rfl rfl (by kernel_rfl) (by kernel_rfl) (by kernel_rfl) (by rfl) hHeld (fun _ _ _ h => h) ?_ ?_
    rotate_left
    ·intro w' hSw; (try dsimp only at hSw); go_simp <;> with_reducible rfl
    simp only [Act.put, List.setIfInBounds_toArray, List.set_cons_zero, List.set_cons_succ]
    refine heldTake 2 (some 18) (v := ?_) rfl rfl (by kernel_rfl) (by kernel_rfl) (by kernel_rfl) (by rfl) hHeld (fun _ _ _ h => h) ?_ ?_
    rotate_left
    ·intro w' hSw; (try dsimp only at hSw); go_simp <;> with_reducible rfl
    simp only [Act.put, List.setIfInBounds_toArray, List.set_cons_zero, List.set_cons_succ]
    refine heldTake 3 (some 19) (v := ?_) rfl rfl (by kernel_rfl) (by kernel_rfl) (by kernel_rfl) (by rfl) hHeld (fun _ _ _ h => h) ?_ ?_
    rotate_left
    ·intro w' hSw; (try dsimp only at hSw); go_simp <;> with_reducible rfl
    simp only [Act.put, List.setIfInBounds_toArray, List.set_cons_zero, List.set_cons_succ]
    refine heldTake 4 (some 20) (v := ?_) rfl rfl (by kernel_rfl) (by kernel_rfl) (by kernel_rfl) (by rfl) hHeld (fun _ _ _ h => h) ?_ ?_
    rotate_left
    ·intro w' hSw; (try dsimp only at hSw); have q0 : w'.cell? ⟨b, off + k * 16, none⟩ = some (.int .i64 xtm) := (World.cell?_of_block (hSw.block _ HBL.out)).trans g0; go_simp <;> with_reducible rfl
    simp only [Act.put, List.setIfInBounds_toArray, List.set_cons_zero, List.set_cons_succ]
    refine heldTake 5 (some 21) (v := ?_) rfl rfl (by kernel_rfl) (by kernel_rfl) (by kernel_rfl) (by rfl) hHeld (fun _ _ _ h => h) ?_ ?_
    rotate_left
    ·intro w' hSw; (try dsimp only at hSw); go_simp <;> with_reducible rfl
    simp only [Act.put, List.setIfInBounds_toArray, List.set_cons_zero, List.set_cons_succ]
    refine heldTake 6 (some 22) (v := ?_) rfl rfl (by kernel_rfl) (by kernel_rfl) (by kernel_rfl) (by rfl) hHeld (fun _ _ _ h => h) ?_ ?_
    rotate_left
    ·intro w' hSw; (try dsimp only at hSw); go_simp <;> with_reducible rfl
    simp only [Act.put, List.setIfInBounds_toArray, List.set_cons_zero, List.set_cons_succ]
    refine heldTake 7 (some 23) (v := ?_) rfl rfl (by kernel_rfl) (by kernel_rfl) (by kernel_rfl) (by rfl) hHeld (fun _ _ _ h => h) ?_ ?_
    rotate_left
    ·intro w' hSw; (try dsimp only at hSw); go_simp <;> with_reducible rfl
    simp only [Act.put, List.setIfInBounds_toArray, List.set_cons_zero, List.set_cons_succ]
    refine heldTake 8 (some 24) (v := ?_) rfl rfl (by kernel_rfl) (by kernel_rfl) (by kernel_rfl) (by rfl) hHeld (fun _ _ _ h => h) ?_ ?_
    rotate_left
    ·intro w' hSw; (try dsimp only at hSw); go_simp <;> with_reducible rfl
    simp only [Act.put, List.setIfInBounds_toArray, List.set_cons_zero, List.set_cons_succ]
    refine heldTake 9 (some 25) (v := ?_) rfl rfl (by kernel_rfl) (by kernel_rfl) (by kernel_rfl) (by rfl) hHeld (fun _ _ _ h => h) ?_ ?_
    rotate_left
    ·intro w' hSw; (try dsimp only at hSw); have q0 : w'.cell? ⟨b', off' + k * 16, none⟩ = some (.int .i64 ytm) := (World.cell?_of_block (hSw.block _ HBM.out)).trans h0; go_simp <;> with_reducible rfl
    simp only [Act.put, List.setIfInBounds_toArray, List.set_cons_zero, List.set_cons_succ]
    by_cases tt23 : xtm = ytm
    case neg =>
     have gg23 : Hid (decide (xtm = ytm) = false) := Lib.hid (decide_eq_false tt23)
     have ee23 : (xtm == ytm) = false := by simpa using tt23
     have ff23 : (xtm != ytm) = true := by simpa using tt23
     have HF : Hid (bo = false) := Lib.hid (by rw [HRX.out, gg23.out] <;> first | rfl | (simp; done))
     have HE : Hid (v1 = false) := Lib.hid (by rw [← HG2.out, HF.out]; rfl)
     have HFR : Hid (rs = false) := Lib.hid (by rw [HR.out, HE.out] <;> simp)
     refine heldTake 10 (some 26) (v := ?_) rfl rfl (by kernel_rfl) (by kernel_rfl) (by kernel_rfl) (by rfl) hHeld (fun _ _ _ h => h) ?_ ?_
     rotate_left
     ·intro w' hSw; (try dsimp only at hSw); go_simp <;> with_reducible rfl
     simp only [Act.put, List.setIfInBounds_toArray, List.set_cons_zero, List.set_cons_succ]
     refine heldTake 11 (some 27) (v := ?_) rfl rfl (by kernel_rfl) (by kernel_rfl) (by kernel_rfl) (by rfl) hHeld (fun _ _ _ h => h) ?_ ?_
     rotate_left
     ·intro w' hSw; (try dsimp only at hSw); go_simp <;> with_reducible rfl
     simp only [Act.put, List.setIfInBounds_toArray, List.set_cons_zero, List.set_cons_succ]
     refine heldSkip 12 (some 28) rfl rfl (by kernel_rfl) (by kernel_rfl) (by kernel_rfl) (by rfl) hHeld (fun _ _ _ h => h) ?_
     simp only [Act.put, List.setIfInBounds_toArray, List.set_cons_zero, List.set_cons_succ]
     refine heldSkip 13 (some 29) rfl rfl (by kernel_rfl) (by kernel_rfl) (by kernel_rfl) (by rfl) hHeld (fun _ _ _ h => h) ?_
     simp only [Act.put, List.setIfInBounds_toArray, List.set_cons_zero, List.set_cons_succ]
     refine heldSkip 14 (some 30) rfl rfl (by kernel_rfl) (by kernel_rfl) (by kernel_rfl) (by rfl) hHeld (fun _ _ _ h => h) ?_
     simp only [Act.put, List.setIfInBounds_toArray, List.set_cons_zero, List.set_cons_succ]
     refine heldSkip 15 (some 31) rfl rfl (by kernel_rfl) (by kernel_rfl) (by kernel_rfl) (by rfl) hHeld (fun _ _ _ h => h) ?_
     simp only [Act.put, List.setIfInBounds_toArray, List.set_cons_zero, List.set_cons_succ]
     refine heldSkip 16 (some 32) rfl rfl (by kernel_rfl) (by kernel_rfl) (by kernel_rfl) (by rfl) hHeld (fun _ _ _ h => h) ?_
     simp only [Act.put, List.setIfInBounds_toArray, List.set_cons_zero, List.set_cons_succ]
     refine heldSkip 17 (some 33) rfl rfl (by kernel_rfl) (by kernel_rfl) (by kernel_rfl) (by rfl) hHeld (fun _ _ _ h => h) ?_
     simp only [Act.put, List.setIfInBounds_toArray, List.set_cons_zero, List.set_cons_succ]
     refine heldSkip 18 (some 34) rfl rfl (by kernel_rfl) (by kernel_rfl) (by kernel_rfl) (by rfl) hHeld (fun _ _ _ h => h) ?_
     simp only [Act.put, List.setIfInBounds_toArray, List.set_cons_zero, List.set_cons_succ]
     refine heldSkip 19 (some 35) rfl rfl (by kernel_rfl) (by kernel_rfl) (by kernel_rfl) (by rfl) hHeld (fun _ _ _ h => h) ?_
     simp only [Act.put, List.setIfInBounds_toArray, List.set_cons_zero, List.set_cons_succ]
     refine heldSkip 20 (some 36) rfl rfl (by kernel_rfl) (by kernel_rfl) (by kernel_rfl) (by rfl) hHeld (fun _ _ _ h => h) ?_
     simp only [Act.put, List.setIfInBounds_toArray, List.set_cons_zero, List.set_cons_succ]
     refine heldSkip 21 (some 37) rfl rfl (by kernel_rfl) (by kernel_rfl) (by kernel_rfl) (by rfl) hHeld (fun _ _ _ h => h) ?_
     simp only [Act.put, List.setIfInBounds_toArray, List.set_cons_zero, List.set_cons_succ]
     refine heldSkip 22 (some 38) rfl rfl (by kernel_rfl) (by kernel_rfl) (by kernel_rfl) (by rfl) hHeld (fun _ _ _ h => h) ?_
     simp only [Act.put, List.setIfInBounds_toArray, List.set_cons_zero, List.set_cons_succ]
     refine heldTake 23 (some 39) (v := ?_) rfl rfl (by kernel_rfl) (by kernel_rfl) (by kernel_rfl) (by rfl) hHeld (fun _ _ _ h => h) ?_ ?_
     rotate_left
     ·intro w' hSw; (try dsimp only at hSw); go_simp <;> with_reducible rfl
     simp only [Act.put, List.setIfInBounds_toArray, List.set_cons_zero, List.set_cons_succ]
     refine heldTake 24 (some 40) (v := ?_) rfl rfl (by kernel_rfl) (by kernel_rfl) (by kernel_rfl) (by rfl) hHeld (fun _ _ _ h => h) ?_ ?_
     rotate_left
     ·intro w' hSw; (try dsimp only at hSw); go_simp <;> with_reducible rfl
     simp only [Act.put, List.setIfInBounds_toArray, List.set_cons_zero, List.set_cons_succ]
     refine heldSkip 25 (some 41) rfl rfl (by kernel_rfl) (by kernel_rfl) (by kernel_rfl) (by rfl) hHeld (fun _ _ _ h => h) ?_
     simp only [Act.put, List.setIfInBounds_toArray, List.set_cons_zero, List.set_cons_succ]
     refine heldSkip 26 (some 42) rfl rfl (by kernel_rfl) (by kernel_rfl) (by kernel_rfl) (by rfl) hHeld (fun _ _ _ h => h) ?_
     simp only [Act.put, List.setIfInBounds_toArray, List.set_cons_zero, List.set_cons_succ]
     refine heldSkip 27 (some 43) rfl rfl (by kernel_rfl) (by kernel_rfl) (by kernel_rfl) (by rfl) hHeld (fun _ _ _ h => h) ?_
     simp only [Act.put, List.setIfInBounds_toArray, List.set_cons_zero, List.set_cons_succ]
     refine heldSkip 28 (some 44) rfl rfl (by kernel_rfl) (by kernel_rfl) (by kernel_rfl) (by rfl) hHeld (fun _ _ _ h => h) ?_
     simp only [Act.put, List.setIfInBounds_toArray, List.set_cons_zero, List.set_cons_succ]
     refine heldSkip 29 (some 45) rfl rfl (by kernel_rfl) (by kernel_rfl) (by kernel_rfl) (by rfl) hHeld (fun _ _ _ h => h) ?_
     simp only [Act.put, List.setIfInBounds_toArray, List.set_cons_zero, List.set_cons_succ]
     refine heldSkip 30 (some 46) rfl rfl (by kernel_rfl) (by kernel_rfl) (by kernel_rfl) (by rfl) hHeld (fun _ _ _ h => h) ?_
     simp only [Act.put, List.setIfInBounds_toArray, List.set_cons_zero, List.set_cons_succ]
     refine heldSkip 31 (some 47) rfl rfl (by kernel_rfl) (by kernel_rfl) (by kernel_rfl) (by rfl) hHeld (fun _ _ _ h => h) ?_
     simp only [Act.put, List.setIfInBounds_toArray, List.set_cons_zero, List.set_cons_succ]
     refine heldSkip 32 (some 48) rfl rfl (by kernel_rfl) (by kernel_rfl) (by kernel_rfl) (by rfl) hHeld (fun _ _ _ h => h) ?_
     simp only [Act.put, List.setIfInBounds_toArray, List.set_cons_zero, List.set_cons_succ]
     refine heldSkip 33 (some 49) rfl rfl (by kernel_rfl) (by kernel_rfl) (by kernel_rfl) (by rfl) hHeld (fun _ _ _ h => h) ?_
     simp only [Act.put, List.setIfInBounds_toArray, List.set_cons_zero, List.set_cons_succ]
     refine heldSkip 34 (some 50) rfl rfl (by kernel_rfl) (by kernel_rfl) (by kernel_rfl) (by rfl) hHeld (fun _ _ _ h => h) ?_
     simp only [Act.put, List.setIfInBounds_toArray, List.set_cons_zero, List.set_cons_succ]
     refine heldSkip 35 (some 51) rfl rfl (by kernel_rfl) (by kernel_rfl) (by kernel_rfl) (by rfl) hHeld (fun _ _ _ h => h) ?_
     simp only [Act.put, List.setIfInBounds_toArray, List.set_cons_zero, List.set_cons_succ]
     refine heldTake 36 (some 52) (v := ?_) rfl rfl (by kernel_rfl) (by kernel_rfl) (by kernel_rfl) (by rfl) hHeld (fun _ _ _ h => h) ?_ ?_
     rotate_left
     ·intro w' hSw; (try dsimp only at hSw); go_simp <;> with_reducible rfl
     simp only [Act.put, List.setIfInBounds_toArray, List.set_cons_zero, List.set_cons_succ]
     refine heldTake 37 (some 53) (v := ?_) rfl rfl (by kernel_rfl) (by kernel_rfl) (by kernel_rfl) (by rfl) hHeld (fun _ _ _ h => h) ?_ ?_
     rotate_left
     ·intro w' hSw; (try dsimp only at hSw); go_simp <;> with_reducible rfl
     simp only [Act.put, List.setIfInBounds_toArray, List.set_cons_zero, List.set_cons_succ]
     refine heldSkip 38 (some 54) rfl rfl (by kernel_rfl) (by kernel_rfl) (by kernel_rfl) (by rfl) hHeld (fun _ _ _ h => h) ?_
     simp only [Act.put, List.setIfInBounds_toArray, List.set_cons_zero, List.set_cons_succ]
     refine heldSkip 39 (some 55) rfl rfl (by kernel_rfl) (by kernel_rfl) (by kernel_rfl) (by rfl) hHeld (fun _ _ _ h => h) ?_
     simp only [Act.put, List.setIfInBounds_toArray, List.set_cons_zero, List.set_cons_succ]
     refine heldSkip 40 (some 56) rfl rfl (by kernel_rfl) (by kernel_rfl) (by kernel_rfl) (by rfl) hHeld (fun _ _ _ h => h) ?_
     simp only [Act.put, List.setIfInBounds_toArray, List.set_cons_zero, List.set_cons_succ]
     refine heldSkip 41 (some 57) rfl rfl (by kernel_rfl) (by kernel_rfl) (by kernel_rfl) (by rfl) hHeld (fun _ _ _ h => h) ?_
     simp only [Act.put, List.setIfInBounds_toArray, List.set_cons_zero, List.set_cons_succ]
     refine heldSkip 42 (some 58) rfl rfl (by kernel_rfl) (by kernel_rfl) (by kernel_rfl) (by rfl) hHeld (fun _ _ _ h => h) ?_
     simp only [Act.put, List.setIfInBounds_toArray, List.set_cons_zero, List.set_cons_succ]
     refine heldSkip 43 (some 59) rfl rfl (by kernel_rfl) (by kernel_rfl) (by kernel_rfl) (by rfl) hHeld (fun _ _ _ h => h) ?_
     simp only [Act.put, List.setIfInBounds_toArray, List.set_cons_zero, List.set_cons_succ]
     refine heldSkip 44 (some 60) rfl rfl (by kernel_rfl) (by kernel_rfl) (by kernel_rfl) (by rfl) hHeld (fun _ _ _ h => h) ?_
     simp only [Act.put, List.setIfInBounds_toArray, List.set_cons_zero, List.set_cons_succ]
     refine heldSkip 45 (some 61) rfl rfl (by kernel_rfl) (by kernel_rfl) (by kernel_rfl) (by rfl) hHeld (fun _ _ _ h => h) ?_
     simp only [Act.put, List.setIfInBounds_toArray, List.set_cons_zero, List.set_cons_succ]
     refine heldSkip 46 (some 62) rfl rfl (by kernel_rfl) (by kernel_rfl) (by kernel_rfl) (by rfl) hHeld (fun _ _ _ h => h) ?_
     simp only [Act.put, List.setIfInBounds_toArray, List.set_cons_zero, List.set_cons_succ]
     refine heldSkip 47 (some 63) rfl rfl (by kernel_rfl) (by kernel_rfl) (by kernel_rfl) (by rfl) hHeld (fun _ _ _ h => h) ?_
     simp only [Act.put, List.setIfInBounds_toArray, List.set_cons_zero, List.set_cons_succ]
     refine heldSkip 48 (some 64) rfl rfl (by kernel_rfl) (by kernel_rfl) (by kernel_rfl) (by rfl) hHeld (fun _ _ _ h => h) ?_
     simp only [Act.put, List.setIfInBounds_toArray, List.set_cons_zero, List.set_cons_succ]
     refine heldSkip 49 (some 65) rfl rfl (by kernel_rfl) (by kernel_rfl) (by kernel_rfl) (by rfl) hHeld (fun _ _ _ h => h) ?_
     simp only [Act.put, List.setIfInBounds_toArray, List.set_cons_zero, List.set_cons_succ]
     refine heldTake 50 (some 66) (v := ?_) rfl rfl (by kernel_rfl) (by kernel_rfl) (by kernel_rfl) (by rfl) hHeld (fun _ _ _ h => h) ?_ ?_
     rotate_left
     ·intro w' hSw; (try dsimp only at hSw); go_simp <;> with_reducible rfl
     simp only [Act.put, List.setIfInBounds_toArray, List.set_cons_zero, List.set_cons_succ]
     refine wpAnyH_done (by kernel_rfl) ?_ _
     refine NoPanic.normal ?_
     have HZ : Hid (Below w.heap.size w _) := Lib.hid hHeld
     go_wp2_with fail
     go_ret
     exact ⟨by rw [HFR.out] <;> rfl, HZ.out⟩
    case pos =>
     have GG23 : Hid (decide (xtm = ytm) = true) := Lib.hid (decide_eq_true tt23)
     have ee23 : (xtm == ytm) = true := by simpa using tt23
     have ff23 : (xtm != ytm) = false := by simpa using tt23
     clear tt23
     refine heldTake 10 (some 26) (v := ?_) rfl rfl (by kernel_rfl) (by kernel_rfl) (by kernel_rfl) (by rfl) hHeld (fun _ _ _ h => h) ?_ ?_
     rotate_left
     ·intro w' hSw; (try dsimp only at hSw); go_simp <;> with_reducible rfl
     simp only [Act.put, List.setIfInBounds_toArray, List.set_cons_zero, List.set_cons_succ]
     refine heldTake 11 (some 27) (v := ?_) rfl rfl (by kernel_rfl) (by kernel_rfl) (by kernel_rfl) (by rfl) hHeld (fun _ _ _ h => h) ?_ ?_
     rotate_left
     ·intro w' hSw; (try dsimp only at hSw); go_simp <;> with_reducible rfl
     simp only [Act.put, List.setIfInBounds_toArray, List.set_cons_zero, List.set_cons_succ]
     refine heldTake 12 (some 28) (v := ?_) rfl rfl (by kernel_rfl) (by kernel_rfl) (by kernel_rfl) (by rfl) hHeld (fun _ _ _ h => h) ?_ ?_
     rotate_left
     ·intro w' hSw; (try dsimp only at hSw); go_simp <;> with_reducible rfl
     simp only [Act.put, List.setIfInBounds_toArray, List.set_cons_zero, List.set_cons_succ]
     refine heldTake 13 (some 29) (v := ?_) rfl rfl (by kernel_rfl) (by kernel_rfl) (by kernel_rfl) (by rfl) hHeld (fun _ _ _ h => h) ?_ ?_
     rotate_left
     ·intro w' hSw; (try dsimp only at hSw); go_simp <;> with_reducible rfl
     simp only [Act.put, List.setIfInBounds_toArray, List.set_cons_zero, List.set_cons_succ]
     refine heldTake 14 (some 30) (v := ?_) rfl rfl (by kernel_rfl) (by kernel_rfl) (by kernel_rfl) (by rfl) hHeld (fun _ _ _ h => h) ?_ ?_
     rotate_left
     ·intro w' hSw; (try dsimp only at hSw); go_simp <;> with_reducible rfl
     simp only [Act.put, List.setIfInBounds_toArray, List.set_cons_zero, List.set_cons_succ]
     refine heldTake 15 (some 31) (v := ?_) rfl rfl (by kernel_rfl) (by kernel_rfl) (by kernel_rfl) (by rfl) hHeld (fun _ _ _ h => h) ?_ ?_
     rotate_left
     ·intro w' hSw; (try dsimp only at hSw); go_simp <;> with_reducible rfl
     simp only [Act.put, List.setIfInBounds_toArray, List.set_cons_zero, List.set_cons_succ]
     refine heldTake 16 (some 32) (v := ?_) rfl rfl (by kernel_rfl) (by kernel_rfl) (by kernel_rfl) (by rfl) hHeld (fun _ _ _ h => h) ?_ ?_
     rotate_left
     ·intro w' hSw; (try dsimp only at hSw); have q1 : w'.cell? ⟨b, off + k * 16 + 1, none⟩ = some (.string xtb) := (World.cell?_of_block (hSw.block _ HBL.out)).trans g1; go_simp <;> with_reducible rfl
     simp only [Act.put, List.setIfInBounds_toArray, List.set_cons_zero, List.set_cons_succ]
     refine heldTake 17 (some 33) (v := ?_) rfl rfl (by kernel_rfl) (by kernel_rfl) (by kernel_rfl) (by rfl) hHeld (fun _ _ _ h => h) ?_ ?_
     rotate_left
     ·intro w' hSw; (try dsimp only at hSw); go_simp <;> with_reducible rfl
     simp only [Act.put, List.setIfInBounds_toArray, List.set_cons_zero, List.set_cons_succ]
     refine heldTake 18 (some 34) (v := ?_) rfl rfl (by kernel_rfl) (by kernel_rfl) (by kernel_rfl) (by rfl) hHeld (fun _ _ _ h => h) ?_ ?_
     rotate_left
     ·intro w' hSw; (try dsimp only at hSw); go_simp <;> with_reducible rfl
     simp only [Act.put, List.setIfInBounds_toArray, List.set_cons_zero, List.set_cons_succ]
     refine heldTake 19 (some 35) (v := ?_) rfl rfl (by kernel_rfl) (by kernel_rfl) (by kernel_rfl) (by rfl) hHeld (fun _ _ _ h => h) ?_ ?_
     rotate_left
     ·intro w' hSw; (try dsimp only at hSw); go_simp <;> with_reducible rfl
     simp only [Act.put, List.setIfInBounds_toArray, List.set_cons_zero, List.set_cons_succ]
     refine heldTake 20 (some 36) (v := ?_) rfl rfl (by kernel_rfl) (by kernel_rfl) (by kernel_rfl) (by rfl) hHeld (fun _ _ _ h => h) ?_ ?_
     rotate_left
     ·intro w' hSw; (try dsimp only at hSw); go_simp <;> with_reducible rfl
     simp only [Act.put, List.setIfInBounds_toArray, List.set_cons_zero, List.set_cons_succ]
     refine heldTake 21 (some 37) (v := ?_) rfl rfl (by kernel_rfl) (by kernel_rfl) (by kernel_rfl) (by rfl) hHeld (fun _ _ _ h => h) ?_ ?_
     rotate_left
     ·intro w' hSw; (try dsimp only at hSw); have q1 : w'.cell? ⟨b', off' + k * 16 + 1, none⟩ = some (.string ytb) := (World.cell?_of_block (hSw.block _ HBM.out)).trans h1; go_simp <;> with_reducible rfl
     simp only [Act.put, List.setIfInBounds_toArray, List.set_cons_zero, List.set_cons_succ]
     cases ee24 : (xtb.toList == ytb.toList)
     case false =>
      have gg24 : Hid (eqS xtb ytb = false) := Lib.hid ee24
      have ff24 : (xtb.toList != ytb.toList) = true := by rw [bne, ee24]; rfl
      have HF : Hid (bo = false) := Lib.hid (by rw [HRX.out, GG23.out, gg24.out] <;> first | rfl | (simp; done))
      have HE : Hid (v1 = false) := Lib.hid (by rw [← HG2.out, HF.out]; rfl)
      have HFR : Hid (rs = false) := Lib.hid (by rw [HR.out, HE.out] <;> simp)
      refine heldTake 22 (some 38) (v := ?_) rfl rfl (by kernel_rfl) (by kernel_rfl) (by kernel_rfl) (by rfl) hHeld (fun _ _ _ h => h) ?_ ?_
      rotate_left
      ·intro w' hSw; (try dsimp only at hSw); go_simp <;> with_reducible rfl
      simp only [Act.put, List.setIfInBounds_toArray, List.set_cons_zero, List.set_cons_succ]
      refine heldTake 23 (some 39) (v := ?_) rfl rfl (by kernel_rfl) (by kernel_rfl) (by kernel_rfl) (by rfl) hHeld (fun _ _ _ h => h) ?_ ?_
      rotate_left
      ·intro w' hSw; (try dsimp only at hSw); go_simp <;> with_reducible rfl
      simp only [Act.put, List.setIfInBounds_toArray, List.set_cons_zero, List.set_cons_succ]
      refine heldTake 24 (some 40) (v := ?_) rfl rfl (by kernel_rfl) (by kernel_rfl) (by kernel_rfl) (by rfl) hHeld (fun _ _ _ h => h) ?_ ?_
      rotate_left
      ·intro w' hSw; (try dsimp only at hSw); go_simp <;> with_reducible rfl
      simp only [Act.put, List.setIfInBounds_toArray, List.set_cons_zero, List.set_cons_succ]
      refine heldSkip 25 (some 41) rfl rfl (by kernel_rfl) (by kernel_rfl) (by kernel_rfl) (by rfl) hHeld (fun _ _ _ h => h) ?_
      simp only [Act.put, List.setIfInBounds_toArray, List.set_cons_zero, List.set_cons_succ]
      refine heldSkip 26 (some 42) rfl rfl (by kernel_rfl) (by kernel_rfl) (by kernel_rfl) (by rfl) hHeld (fun _ _ _ h => h) ?_
      simp only [Act.put, List.setIfInBounds_toArray, List.set_cons_zero, List.set_cons_succ]
      refine heldSkip 27 (some 43) rfl rfl (by kernel_rfl) (by kernel_rfl) (by kernel_rfl) (by rfl) hHeld (fun _ _ _ h => h) ?_
      simp only [Act.put, List.setIfInBounds_toArray, List.set_cons_zero, List.set_cons_succ]
      refine heldSkip 28 (some 44) rfl rfl (by kernel_rfl) (by kernel_rfl) (by kernel_rfl) (by rfl) hHeld (fun _ _ _ h => h) ?_
      simp only [Act.put, List.setIfInBounds_toArray, List.set_cons_zero, List.set_cons_succ]
      refine heldSkip 29 (some 45) rfl rfl (by kernel_rfl) (by kernel_rfl) (by kernel_rfl) (by rfl) hHeld (fun _ _ _ h => h) ?_
      simp only [Act.put, List.setIfInBounds_toArray, List.set_cons_zero, List.set_cons_succ]
      refine heldSkip 30 (some 46) rfl rfl (by kernel_rfl) (by kernel_rfl) (by kernel_rfl) (by rfl) hHeld (fun _ _ _ h => h) ?_
      simp only [Act.put, List.setIfInBounds_toArray, List.set_cons_zero, List.set_cons_succ]
      refine heldSkip 31 (some 47) rfl rfl (by kernel_rfl) (by kernel_rfl) (by kernel_rfl) (by rfl) hHeld (fun _ _ _ h => h) ?_
      simp only [Act.put, List.setIfInBounds_toArray, List.set_cons_zero, List.set_cons_succ]
      refine heldSkip 32 (some 48) rfl rfl (by kernel_rfl) (by kernel_rfl) (by kernel_rfl) (by rfl) hHeld (fun _ _ _ h => h) ?_
      simp only [Act.put, List.setIfInBounds_toArray, List.set_cons_zero, List.set_cons_succ]
      refine heldSkip 33 (some 49) rfl rfl (by kernel_rfl) (by kernel_rfl) (by kernel_rfl) (by rfl) hHeld (fun _ _ _ h => h) ?_
      simp only [Act.put, List.setIfInBounds_toArray, List.set_cons_zero, List.set_cons_succ]
      refine heldSkip 34 (some 50) rfl rfl (by kernel_rfl) (by kernel_rfl) (by kernel_rfl) (by rfl) hHeld (fun _ _ _ h => h) ?_
      simp only [Act.put, List.setIfInBounds_toArray, List.set_cons_zero, List.set_cons_succ]
      refine heldSkip 35 (some 51) rfl rfl (by kernel_rfl) (by kernel_rfl) (by kernel_rfl) (by rfl) hHeld (fun _ _ _ h => h) ?_
      simp only [Act.put, List.setIfInBounds_toArray, List.set_cons_zero, List.set_cons_succ]
      refine heldTake 36 (some 52) (v := ?_) rfl rfl (by kernel_rfl) (by kernel_rfl) (by kernel_rfl) (by rfl) hHeld (fun _ _ _ h => h) ?_ ?_
      rotate_left
      ·intro w' hSw; (try dsimp only at hSw); go_simp <;> with_reducible rfl
      simp only [Act.put, List.setIfInBounds_toArray, List.set_cons_zero, List.set_cons_succ]
      refine heldTake 37 (some 53) (v := ?_) rfl rfl (by kernel_rfl) (by kernel_rfl) (by kernel_rfl) (by rfl) hHeld (fun _ _ _ h => h) ?_ ?_
      rotate_left
      ·intro w' hSw; (try dsimp only at hSw); go_simp <;> with_reducible rfl
      simp only [Act.put, List.setIfInBounds_toArray, List.set_cons_zero, List.set_cons_succ]
      refine heldSkip 38 (some 54) rfl rfl (by kernel_rfl) (by kernel_rfl) (by kernel_rfl) (by rfl) hHeld (fun _ _ _ h => h) ?_
      simp only [Act.put, List.setIfInBounds_toArray, List.set_cons_zero, List.set_cons_succ]
      refine heldSkip 39 (some 55) rfl rfl (by kernel_rfl) (by kernel_rfl) (by kernel_rfl) (by rfl) hHeld (fun _ _ _ h => h) ?_
      simp only [Act.put, List.setIfInBounds_toArray, List.set_cons_zero, List.set_cons_succ]
      refine heldSkip 40 (some 56) rfl rfl (by kernel_rfl) (by kernel_rfl) (by kernel_rfl) (by rfl) hHeld (fun _ _ _ h => h) ?_
      simp only [Act.put, List.setIfInBounds_toArray, List.set_cons_zero, List.set_cons_succ]
      refine heldSkip 41 (some 57) rfl rfl (by kernel_rfl) (by kernel_rfl) (by kernel_rfl) (by rfl) hHeld (fun _ _ _ h => h) ?_
      simp only [Act.put, List.setIfInBounds_toArray, List.set_cons_zero, List.set_cons_succ]
      refine heldSkip 42 (some 58) rfl rfl (by kernel_rfl) (by kernel_rfl) (by kernel_rfl) (by rfl) hHeld (fun _ _ _ h => h) ?_
      simp only [Act.put, List.setIfInBounds_toArray, List.set_cons_zero, List.set_cons_succ]
      refine heldSkip 43 (some 59) rfl rfl (by kernel_rfl) (by kernel_rfl) (by kernel_rfl) (by rfl) hHeld (fun _ _ _ h => h) ?_
      simp only [Act.put, List.setIfInBounds_toArray, List.set_cons_zero, List.set_cons_succ]
      refine heldSkip 44 (some 60) rfl rfl (by kernel_rfl) (by kernel_rfl) (by kernel_rfl) (by rfl) hHeld (fun _ _ _ h => h) ?_
      simp only [Act.put, List.setIfInBounds_toArray, List.set_cons_zero, List.set_cons_succ]
      refine heldSkip 45 (some 61) rfl rfl (by kernel_rfl) (by kernel_rfl) (by kernel_rfl) (by rfl) hHeld (fun _ _ _ h => h) ?_
      simp only [Act.put, List.setIfInBounds_toArray, List.set_cons_zero, List.set_cons_succ]
      refine heldSkip 46 (some 62) rfl rfl (by kernel_rfl) (by kernel_rfl) (by kernel_rfl) (by rfl) hHeld (fun _ _ _ h => h) ?_
      simp only [Act.put, List.setIfInBounds_toArray, List.set_cons_zero, List.set_cons_succ]
      refine heldSkip 47 (some 63) rfl rfl (by kernel_rfl) (by kernel_rfl) (by kernel_rfl) (by rfl) hHeld (fun _ _ _ h => h) ?_
      simp only [Act.put, List.setIfInBounds_toArray, List.set_cons_zero, List.set_cons_succ]
      refine heldSkip 48 (some 64) rfl rfl (by kernel_rfl) (by kernel_rfl) (by kernel_rfl) (by rfl) hHeld (fun _ _ _ h => h) ?_
      simp only [Act.put, List.setIfInBounds_toArray, List.set_cons_zero, List.set_cons_succ]
      refine heldSkip 49 (some 65) rfl rfl (by kernel_rfl) (by kernel_rfl) (by kernel_rfl) (by rfl) hHeld (fun _ _ _ h => h) ?_
      simp only [Act.put, List.setIfInBounds_toArray, List.set_cons_zero, List.set_cons_succ]
      refine heldTake 50 (some 66) (v := ?_) rfl rfl (by kernel_rfl) (by kernel_rfl) (by kernel_rfl) (by rfl) hHeld (fun _ _ _ h => h) ?_ ?_
      rotate_left
      ·intro w' hSw; (try dsimp only at hSw); go_simp <;> with_reducible rfl
      simp only [Act.put, List.setIfInBounds_toArray, List.set_cons_zero, List.set_cons_succ]
      refine wpAnyH_done (by kernel_rfl) ?_ _
      refine NoPanic.normal ?_
      have HZ : Hid (Below w.heap.size w _) := Lib.hid hHeld
      go_wp2_with fail
      go_ret
      exact ⟨by rw [HFR.out] <;> rfl, HZ.out⟩
     case true =>
      have GG24 : Hid (eqS xtb ytb = true) := Lib.hid ee24
      have ff24 : (xtb.toList != ytb.toList) = false := by rw [bne, ee24]; rfl
      refine heldTake 22 (some 38) (v := ?_) rfl rfl (by kernel_rfl) (by kernel_rfl) (by kernel_rfl) (by rfl) hHeld (fun _ _ _ h => h) ?_ ?_
      rotate_left
      ·intro w' hSw; (try dsimp only at hSw); go_simp <;> with_reducible rfl
      simp only [Act.put, List.setIfInBounds_toArray, List.set_cons_zero, List.set_cons_succ]
      refine heldTake 23 (some 39) (v := ?_) rfl rfl (by kernel_rfl) (by kernel_rfl) (by kernel_rfl) (by rfl) hHeld (fun _ _ _ h => h) ?_ ?_
      rotate_left
      ·intro w' hSw; (try dsimp only at hSw); go_simp <;> with_reducible rfl
      simp only [Act.put, List.setIfInBounds_toArray, List.set_cons_zero, List.set_cons_succ]
      refine heldTake 24 (some 40) (v := ?_) rfl rfl (by kernel_rfl) (by kernel_rfl) (by kernel_rfl) (by rfl) hHeld (fun _ _ _ h => h) ?_ ?_
      rotate_left
      ·intro w' hSw; (try dsimp only at hSw); go_simp <;> with_reducible rfl
      simp only [Act.put, List.setIfInBounds_toArray, List.set_cons_zero, List.set_cons_succ]
      refine heldTake 25 (some 41) (v := ?_) rfl rfl (by kernel_rfl) (by kernel_rfl) (by kernel_rfl) (by rfl) hHeld (fun _ _ _ h => h) ?_ ?_
      rotate_left
      ·intro w' hSw; (try dsimp only at hSw); go_simp <;> with_reducible rfl
      simp only [Act.put, List.setIfInBounds_toArray, List.set_cons_zero, List.set_cons_succ]
      refine heldTake 26 (some 42) (v := ?_) rfl rfl (by kernel_rfl) (by kernel_rfl) (by kernel_rfl) (by rfl) hHeld (fun _ _ _ h => h) ?_ ?_
      rotate_left
      ·intro w' hSw; (try dsimp only at hSw); go_simp <;> with_reducible rfl
      simp only [Act.put, List.setIfInBounds_toArray, List.set_cons_zero, List.set_cons_succ]
      refine heldTake 27 (some 43) (v := ?_) rfl rfl (by kernel_rfl) (by kernel_rfl) (by kernel_rfl) (by rfl) hHeld (fun _ _ _ h => h) ?_ ?_
      rotate_left
      ·intro w' hSw; (try dsimp only at hSw); go_simp <;> with_reducible rfl
      simp only [Act.put, List.setIfInBounds_toArray, List.set_cons_zero, List.set_cons_succ]
      refine heldTake 28 (some 44) (v := ?_) rfl rfl (by kernel_rfl) (by kernel_rfl) (by kernel_rfl) (by rfl) hHeld (fun _ _ _ h => h) ?_ ?_
      rotate_left
      ·intro w' hSw; (try dsimp only at hSw); go_simp <;> with_reducible rfl
      simp only [Act.put, List.setIfInBounds_toArray, List.set_cons_zero, List.set_cons_succ]
      refine heldTake 29 (some 45) (v := ?_) rfl rfl (by kernel_rfl) (by kernel_rfl) (by kernel_rfl) (by rfl) hHeld (fun _ _ _ h => h) ?_ ?_
      rotate_left
      ·intro w' hSw; (try dsimp only at hSw); have q7 : w'.cell? ⟨b, off + k * 16 + 7, none⟩ = some (.int .i64 x1) := (World.cell?_of_block (hSw.block _ HBL.out)).trans g7; have q8 : w'.cell? ⟨b, off + k * 16 + 8, none⟩ = some (.string x2) := (World.cell?_of_block (hSw.block _ HBL.out)).trans g8; have q9 : w'.cell? ⟨b, off + k * 16 + 9, none⟩ = some (.string x3) := (World.cell?_of_block (hSw.block _ HBL.out)).trans g9; have q10 : w'.cell? ⟨b, off + k * 16 + 10, none⟩ = some (.string x4) := (World.cell?_of_block (hSw.block _ HBL.out)).trans g10; have q11 : w'.cell? ⟨b, off + k * 16 + 11, none⟩ = some (.int .i64 x5) := (World.cell?_of_block (hSw.block _ HBL.out)).trans g11; have q12 : w'.cell? ⟨b, off + k * 16 + 12, none⟩ = some (.bool x6) := (World.cell?_of_block (hSw.block _ HBL.out)).trans g12; have q13 : w'.cell? ⟨b, off + k * 16 + 13, none⟩ = some (.int .i64 x7) := (World.cell?_of_block (hSw.block _ HBL.out)).trans g13; have q14 : w'.cell? ⟨b, off + k * 16 + 14, none⟩ = some (.int .i64 x8) := (World.cell?_of_block (hSw.block _ HBL.out)).trans g14; have q15 : w'.cell? ⟨b, off + k * 16 + 15, none⟩ = some (.string x9) := (World.cell?_of_block (hSw.block _ HBL.out)).trans g15; go_simp <;> with_reducible rfl
      simp only [Act.put, List.setIfInBounds_toArray, List.set_cons_zero, List.set_cons_succ]
      refine heldTake 30 (some 46) (v := ?_) rfl rfl (by kernel_rfl) (by kernel_rfl) (by kernel_rfl) (by rfl) hHeld (fun _ _ _ h => h) ?_ ?_
      rotate_left
      ·intro w' hSw; (try dsimp only at hSw); go_simp <;> with_reducible rfl
      simp only [Act.put, List.setIfInBounds_toArray, List.set_cons_zero, List.set_cons_succ]
      refine heldTake 31 (some 47) (v := ?_) rfl rfl (by kernel_rfl) (by kernel_rfl) (by kernel_rfl) (by rfl) hHeld (fun _ _ _ h => h) ?_ ?_
      rotate_left
      ·intro w' hSw; (try dsimp only at hSw); go_simp <;> with_reducible rfl
      simp only [Act.put, List.setIfInBounds_toArray, List.set_cons_zero, List.set_cons_succ]
      refine heldTake 32 (some 48) (v := ?_) rfl rfl (by kernel_rfl) (by kernel_rfl) (by kernel_rfl) (by rfl) hHeld (fun _ _ _ h => h) ?_ ?_
      rotate_left
      ·intro w' hSw; (try dsimp only at hSw); go_simp <;> with_reducible rfl
      simp only [Act.put, List.setIfInBounds_toArray, List.set_cons_zero, List.set_cons_succ]
      refine heldTake 33 (some 49) (v := ?_) rfl rfl (by kernel_rfl) (by kernel_rfl) (by kernel_rfl) (by rfl) hHeld (fun _ _ _ h => h) ?_ ?_
      rotate_left
      ·intro w' hSw; (try dsimp only at hSw); go_simp <;> with_reducible rfl
      simp only [Act.put, List.setIfInBounds_toArray, List.set_cons_zero, List.set_cons_succ]
      refine heldTake 34 (some 50) (v := ?_) rfl rfl (by kernel_rfl) (by kernel_rfl) (by kernel_rfl) (by rfl) hHeld (fun _ _ _ h => h) ?_ ?_
      rotate_left
      ·intro w' hSw; (try dsimp only at hSw); have q7 : w'.cell? ⟨b', off' + k * 16 + 7, none⟩ = some (.int .i64 y1) := (World.cell?_of_block (hSw.block _ HBM.out)).trans h7; have q8 : w'.cell? ⟨b', off' + k * 16 + 8, none⟩ = some (.string y2) := (World.cell?_of_block (hSw.block _ HBM.out)).trans h8; have q9 : w'.cell? ⟨b', off' + k * 16 + 9, none⟩ = some (.string y3) := (World.cell?_of_block (hSw.block _ HBM.out)).trans h9; have q10 : w'.cell? ⟨b', off' + k * 16 + 10, none⟩ = some (.string y4) := (World.cell?_of_block (hSw.block _ HBM.out)).trans h10; have q11 : w'.cell? ⟨b', off' + k * 16 + 11, none⟩ = some (.int .i64 y5) := (World.cell?_of_block (hSw.block _ HBM.out)).trans h11; have q12 : w'.cell? ⟨b', off' + k * 16 + 12, none⟩ = some (.bool y6) := (World.cell?_of_block (hSw.block _ HBM.out)).trans h12; have q13 : w'.cell? ⟨b', off' + k * 16 + 13, none⟩ = some (.int .i64 y7) := (World.cell?_of_block (hSw.block _ HBM.out)).trans h13; have q14 : w'.cell? ⟨b', off' + k * 16 + 14, none⟩ = some (.int .i64 y8) := (World.cell?_of_block (hSw.block _ HBM.out)).trans h14; have q15 : w'.cell? ⟨b', off' + k * 16 + 15, none⟩ = some (.string y9) := (World.cell?_of_block (hSw.block _ HBM.out)).trans h15; go_simp <;> with_reducible rfl
      simp only [Act.put, List.setIfInBounds_toArray, List.set_cons_zero, List.set_cons_succ]
      by_cases tt25 : x1 = y1
      case neg =>
       have gg25 : Hid (decide (x1 = y1) = false) := Lib.hid (decide_eq_false tt25)
       have ee25 : (x1 == y1) = false := by simpa using tt25
       have ff25 : (x1 != y1) = true := by simpa using tt25
       have HF : Hid (bo = false) := Lib.hid (by rw [HRX.out, GG23.out, GG24.out, gg25.out] <;> first | rfl | (simp; done))
       have HE : Hid (v1 = false) := Lib.hid (by rw [← HG2.out, HF.out]; rfl)
       have HFR : Hid (rs = false) := Lib.hid (by rw [HR.out, HE.out] <;> simp)
       refine heldTake 35 (some 51) (v := ?_) rfl rfl (by kernel_rfl) (by kernel_rfl) (by kernel_rfl) (by rfl) hHeld (fun _ _ _ h => h) ?_ ?_
       rotate_left
       ·intro w' hSw; (try dsimp only at hSw); go_simp <;> with_reducible rfl
       simp only [Act.put, List.setIfInBounds_toArray, List.set_cons_zero, List.set_cons_succ]
       refine heldTake 36 (some 52) (v := ?_) rfl rfl (by kernel_rfl) (by kernel_rfl) (by kernel_rfl) (by rfl) hHeld (fun _ _ _ h => h) ?_ ?_
       rotate_left
       ·intro w' hSw; (try dsimp only at hSw); go_simp <;> with_reducible rfl
       simp only [Act.put, List.setIfInBounds_toArray, List.set_cons_zero, List.set_cons_succ]
       refine heldTake 37 (some 53) (v := ?_) rfl rfl (by kernel_rfl) (by kernel_rfl) (by kernel_rfl) (by rfl) hHeld (fun _ _ _ h => h) ?_ ?_
       rotate_left
       ·intro w' hSw; (try dsimp only at hSw); go_simp <;> with_reducible rfl
       simp only [Act.put, List.setIfInBounds_toArray, List.set_cons_zero, List.set_cons_succ]
       refine heldSkip 38 (some 54) rfl rfl (by kernel_rfl) (by kernel_rfl) (by kernel_rfl) (by rfl) hHeld (fun _ _ _ h => h) ?_
       simp only [Act.put, List.setIfInBounds_toArray, List.set_cons_zero, List.set_cons_succ]
       refine heldSkip 39 (some 55) rfl rfl (by kernel_rfl) (by kernel_rfl) (by kernel_rfl) (by rfl) hHeld (fun _ _ _ h => h) ?_
       simp only [Act.put, List.setIfInBounds_toArray, List.set_cons_zero, List.set_cons_succ]
       refine heldSkip 40 (some 56) rfl rfl (by kernel_rfl) (by kernel_rfl) (by kernel_rfl) (by rfl) hHeld (fun _ _ _ h => h) ?_
       simp only [Act.put, List.setIfInBounds_toArray, List.set_cons_zero, List.set_cons_succ]
       refine heldSkip 41 (some 57) rfl rfl (by kernel_rfl) (by kernel_rfl) (by kernel_rfl) (by rfl) hHeld (fun _ _ _ h => h) ?_
       simp only [Act.put, List.setIfInBounds_toArray, List.set_cons_zero, List.set_cons_succ]
       refine heldSkip 42 (some 58) rfl rfl (by kernel_rfl) (by kernel_rfl) (by kernel_rfl) (by rfl) hHeld (fun _ _ _ h => h) ?_
       simp only [Act.put, List.setIfInBounds_toArray, List.set_cons_zero, List.set_cons_succ]
       refine heldSkip 43 (some 59) rfl rfl (by kernel_rfl) (by kernel_rfl) (by kernel_rfl) (by rfl) hHeld (fun _ _ _ h => h) ?_
       simp only [Act.put, List.setIfInBounds_toArray, List.set_cons_zero, List.set_cons_succ]
       refine heldSkip 44 (some 60) rfl rfl (by kernel_rfl) (by kernel_rfl) (by kernel_rfl) (by rfl) hHeld (fun _ _ _ h => h) ?_
       simp only [Act.put, List.setIfInBounds_toArray, List.set_cons_zero, List.set_cons_succ]
       refine heldSkip 45 (some 61) rfl rfl (by kernel_rfl) (by kernel_rfl) (by kernel_rfl) (by rfl) hHeld (fun _ _ _ h => h) ?_
       simp only [Act.put, List.setIfInBounds_toArray, List.set_cons_zero, List.set_cons_succ]
       refine heldSkip 46 (some 62) rfl rfl (by kernel_rfl) (by kernel_rfl) (by kernel_rfl) (by rfl) hHeld (fun _ _ _ h => h) ?_
       simp only [Act.put, List.setIfInBounds_toArray, List.set_cons_zero, List.set_cons_succ]
       refine heldSkip 47 (some 63) rfl rfl (by kernel_rfl) (by kernel_rfl) (by kernel_rfl) (by rfl) hHeld (fun _ _ _ h => h) ?_
       simp only [Act.put, List.setIfInBounds_toArray, List.set_cons_zero, List.set_cons_succ]
       refine heldSkip 48 (some 64) rfl rfl (by kernel_rfl) (by kernel_rfl) (by kernel_rfl) (by rfl) hHeld (fun _ _ _ h => h) ?_
       simp only [Act.put, List.setIfInBounds_toArray, List.set_cons_zero, List.set_cons_succ]
       refine heldSkip 49 (some 65) rfl rfl (by kernel_rfl) (by kernel_rfl) (by kernel_rfl) (by rfl) hHeld (fun _ _ _ h => h) ?_
       simp only [Act.put, List.setIfInBounds_toArray, List.set_cons_zero, List.set_cons_succ]
       refine heldTake 50 (some 66) (v := ?_) rfl rfl (by kernel_rfl) (by kernel_rfl) (by kernel_rfl) (by rfl) hHeld (fun _ _ _ h => h) ?_ ?_
       rotate_left
       ·intro w' hSw; (try dsimp only at hSw); go_simp <;> with_reducible rfl
       simp only [Act.put, List.setIfInBounds_toArray, List.set_cons_zero, List.set_cons_succ]
       refine wpAnyH_done (by kernel_rfl) ?_ _
       refine NoPanic.normal ?_
       have HZ : Hid (Below w.heap.size w _) := Lib.hid hHeld
       go_wp2_with fail
       go_ret
       exact ⟨by rw [HFR.out] <;> rfl, HZ.out⟩
      case pos =>
       have GG25 : Hid (decide (x1 = y1) = true) := Lib.hid (decide_eq_true tt25)
       have ee25 : (x1 == y1) = true := by simpa using tt25
       have ff25 : (x1 != y1) = false := by simpa using tt25
       clear tt25
       cases ee26 : (x2.toList == y2.toList)
       case false =>
        have gg26 : Hid (eqS x2 y2 = false) := Lib.hid ee26
        have ff26 : (x2.toList != y2.toList) = true := by rw [bne, ee26]; rfl
        have HF : Hid (bo = false) := Lib.hid (by rw [HRX.out, GG23.out, GG24.out, GG25.out, gg26.out] <;> first | rfl | (simp; done))
        have HE : Hid (v1 = false) := Lib.hid (by rw [← HG2.out, HF.out]; rfl)
        have HFR : Hid (rs = false) := Lib.hid (by rw [HR.out, HE.out] <;> simp)
        refine heldTake 35 (some 51) (v := ?_) rfl rfl (by kernel_rfl) (by kernel_rfl) (by kernel_rfl) (by rfl) hHeld (fun _ _ _ h => h) ?_ ?_
        rotate_left
        ·intro w' hSw; (try dsimp only at hSw); go_simp <;> with_reducible rfl
        simp only [Act.put, List.setIfInBounds_toArray, List.set_cons_zero, List.set_cons_succ]
        refine heldTake 36 (some 52) (v := ?_) rfl rfl (by kernel_rfl) (by kernel_rfl) (by kernel_rfl) (by rfl) hHeld (fun _ _ _ h => h) ?_ ?_
        rotate_left
        ·intro w' hSw; (try dsimp only at hSw); go_simp <;> with_reducible rfl
        simp only [Act.put, List.setIfInBounds_toArray, List.set_cons_zero, List.set_cons_succ]
        refine heldTake 37 (some 53) (v := ?_) rfl rfl (by kernel_rfl) (by kernel_rfl) (by kernel_rfl) (by rfl) hHeld (fun _ _ _ h => h) ?_ ?_
        rotate_left
        ·intro w' hSw; (try dsimp only at hSw); go_simp <;> with_reducible rfl
        simp only [Act.put, List.setIfInBounds_toArray, List.set_cons_zero, List.set_cons_succ]
        refine heldSkip 38 (some 54) rfl rfl (by kernel_rfl) (by kernel_rfl) (by kernel_rfl) (by rfl) hHeld (fun _ _ _ h => h) ?_
        simp only [Act.put, List.setIfInBounds_toArray, List.set_cons_zero, List.set_cons_succ]
        refine heldSkip 39 (some 55) rfl rfl (by kernel_rfl) (by kernel_rfl) (by kernel_rfl) (by rfl) hHeld (fun _ _ _ h => h) ?_
        simp only [Act.put, List.setIfInBounds_toArray, List.set_cons_zero, List.set_cons_succ]
        refine heldSkip 40 (some 56) rfl rfl (by kernel_rfl) (by kernel_rfl) (by kernel_rfl) (by rfl) hHeld (fun _ _ _ h => h) ?_
        simp only [Act.put, List.setIfInBounds_toArray, List.set_cons_zero, List.set_cons_succ]
        refine heldSkip 41 (some 57) rfl rfl (by kernel_rfl) (by kernel_rfl) (by kernel_rfl) (by rfl) hHeld (fun _ _ _ h => h) ?_
        simp only [Act.put, List.setIfInBounds_toArray, List.set_cons_zero, List.set_cons_succ]
        refine heldSkip 42 (some 58) rfl rfl (by kernel_rfl) (by kernel_rfl) (by kernel_rfl) (by rfl) hHeld (fun _ _ _ h => h) ?_
        simp only [Act.put, List.setIfInBounds_toArray, List.set_cons_zero, List.set_cons_succ]
        refine heldSkip 43 (some 59) rfl rfl (by kernel_rfl) (by kernel_rfl) (by kernel_rfl) (by rfl) hHeld (fun _ _ _ h => h) ?_
        simp only [Act.put, List.setIfInBounds_toArray, List.set_cons_zero, List.set_cons_succ]
        refine heldSkip 44 (some 60) rfl rfl (by kernel_rfl) (by kernel_rfl) (by kernel_rfl) (by rfl) hHeld (fun _ _ _ h => h) ?_
        simp only [Act.put, List.setIfInBounds_toArray, List.set_cons_zero, List.set_cons_succ]
        refine heldSkip 45 (some 61) rfl rfl (by kernel_rfl) (by kernel_rfl) (by kernel_rfl) (by rfl) hHeld (fun _ _ _ h => h) ?_
        simp only [Act.put, List.setIfInBounds_toArray, List.set_cons_zero, List.set_cons_succ]
        refine heldSkip 46 (some 62) rfl rfl (by kernel_rfl) (by kernel_rfl) (by kernel_rfl) (by rfl) hHeld (fun _ _ _ h => h) ?_
        simp only [Act.put, List.setIfInBounds_toArray, List.set_cons_zero, List.set_cons_succ]
        refine heldSkip 47 (some 63) rfl rfl (by kernel_rfl) (by kernel_rfl) (by kernel_rfl) (by rfl) hHeld (fun _ _ _ h => h) ?_
        simp only [Act.put, List.setIfInBounds_toArray, List.set_cons_zero, List.set_cons_succ]
        refine heldSkip 48 (some 64) rfl rfl (by kernel_rfl) (by kernel_rfl) (by kernel_rfl) (by rfl) hHeld (fun _ _ _ h => h) ?_
        simp only [Act.put, List.setIfInBounds_toArray, List.set_cons_zero, List.set_cons_succ]
        refine heldSkip 49 (some 65) rfl rfl (by kernel_rfl) (by kernel_rfl) (by kernel_rfl) (by rfl) hHeld (fun _ _ _ h => h) ?_
        simp only [Act.put, List.setIfInBounds_toArray, List.set_cons_zero, List.set_cons_succ]
        refine heldTake 50 (some 66) (v := ?_) rfl rfl (by kernel_rfl) (by kernel_rfl) (by kernel_rfl) (by rfl) hHeld (fun _ _ _ h => h) ?_ ?_
        rotate_left
        ·intro w' hSw; (try dsimp only at hSw); go_simp <;> with_reducible rfl
        simp only [Act.put, List.setIfInBounds_toArray, List.set_cons_zero, List.set_cons_succ]
        refine wpAnyH_done (by kernel_rfl) ?_ _
        refine NoPanic.normal ?_
        have HZ : Hid (Below w.heap.size w _) := Lib.hid hHeld
        go_wp2_with fail
        go_ret
        exact ⟨by rw [HFR.out] <;> rfl, HZ.out⟩
       case true =>
        have GG26 : Hid (eqS x2 y2 = true) := Lib.hid ee26
        have ff26 : (x2.toList != y2.toList) = false := by rw [bne, ee26]; rfl
        cases ee27 : (x3.toList == y3.toList)
        case false =>
         have gg27 : Hid (eqS x3 y3 = false) := Lib.hid ee27
         have ff27 : (x3.toList != y3.toList) = true := by rw [bne, ee27]; rfl
         have HF : Hid (bo = false) := Lib.hid (by rw [HRX.out, GG23.out, GG24.out, GG25.out, GG26.out, gg27.out] <;> first | rfl | (simp; done))
         have HE : Hid (v1 = false) := Lib.hid (by rw [← HG2.out, HF.out]; rfl)
         have HFR : Hid (rs = false) := Lib.hid (by rw [HR.out, HE.out] <;> simp)
         refine heldTake 35 (some 51) (v := ?_) rfl rfl (by kernel_rfl) (by kernel_rfl) (by kernel_rfl) (by rfl) hHeld (fun _ _ _ h => h) ?_ ?_
         rotate_left
         ·intro w' hSw; (try dsimp only at hSw); go_simp <;> with_reducible rfl
         simp only [Act.put, List.setIfInBounds_toArray, List.set_cons_zero, List.set_cons_succ]
         refine heldTake 36 (some 52) (v := ?_) rfl rfl (by kernel_rfl) (by kernel_rfl) (by kernel_rfl) (by rfl) hHeld (fun _ _ _ h => h) ?_ ?_
         rotate_left
         ·intro w' hSw; (try dsimp only at hSw); go_simp <;> with_reducible rfl
         simp only [Act.put, List.setIfInBounds_toArray, List.set_cons_zero, List.set_cons_succ]
         refine heldTake 37 (some 53) (v := ?_) rfl rfl (by kernel_rfl) (by kernel_rfl) (by kernel_rfl) (by rfl) hHeld (fun _ _ _ h => h) ?_ ?_
         rotate_left
         ·intro w' hSw; (try dsimp only at hSw); go_simp <;> with_reducible rfl
         simp only [Act.put, List.setIfInBounds_toArray, List.set_cons_zero, List.set_cons_succ]
         refine heldSkip 38 (some 54) rfl rfl (by kernel_rfl) (by kernel_rfl) (by kernel_rfl) (by rfl) hHeld (fun _ _ _ h => h) ?_
         simp only [Act.put, List.setIfInBounds_toArray, List.set_cons_zero, List.set_cons_succ]
         refine heldSkip 39 (some 55) rfl rfl (by kernel_rfl) (by kernel_rfl) (by kernel_rfl) (by rfl) hHeld (fun _ _ _ h => h) ?_
         simp only [Act.put, List.setIfInBounds_toArray, List.set_cons_zero, List.set_cons_succ]
         refine heldSkip 40 (some 56) rfl rfl (by kernel_rfl) (by kernel_rfl) (by kernel_rfl) (by rfl) hHeld (fun _ _ _ h => h) ?_
         simp only [Act.put, List.setIfInBounds_toArray, List.set_cons_zero, List.set_cons_succ]
         refine heldSkip 41 (some 57) rfl rfl (by kernel_rfl) (by kernel_rfl) (by kernel_rfl) (by rfl) hHeld (fun _ _ _ h => h) ?_
         simp only [Act.put, List.setIfInBounds_toArray, List.set_cons_zero, List.set_cons_succ]
         refine heldSkip 42 (some 58) rfl rfl (by kernel_rfl) (by kernel_rfl) (by kernel_rfl) (by rfl) hHeld (fun _ _ _ h => h) ?_
         simp only [Act.put, List.setIfInBounds_toArray, List.set_cons_zero, List.set_cons_succ]
         refine heldSkip 43 (some 59) rfl rfl (by kernel_rfl) (by kernel_rfl) (by kernel_rfl) (by rfl) hHeld (fun _ _ _ h => h) ?_
         simp only [Act.put, List.setIfInBounds_toArray, List.set_cons_zero, List.set_cons_succ]
         refine heldSkip 44 (some 60) rfl rfl (by kernel_rfl) (by kernel_rfl) (by kernel_rfl) (by rfl) hHeld (fun _ _ _ h => h) ?_
         simp only [Act.put, List.setIfInBounds_toArray, List.set_cons_zero, List.set_cons_succ]
         refine heldSkip 45 (some 61) rfl rfl (by kernel_rfl) (by kernel_rfl) (by kernel_rfl) (by rfl) hHeld (fun _ _ _ h => h) ?_
         simp only [Act.put, List.setIfInBounds_toArray, List.set_cons_zero, List.set_cons_succ]
         refine heldSkip 46 (some 62) rfl rfl (by kernel_rfl) (by kernel_rfl) (by kernel_rfl) (by rfl) hHeld (fun _ _ _ h => h) ?_
         simp only [Act.put, List.setIfInBounds_toArray, List.set_cons_zero, List.set_cons_succ]
         refine heldSkip 47 (some 63) rfl rfl (by kernel_rfl) (by kernel_rfl) (by kernel_rfl) (by rfl) hHeld (fun _ _ _ h => h) ?_
         simp only [Act.put, List.setIfInBounds_toArray, List.set_cons_zero, List.set_cons_succ]
         refine heldSkip 48 (some 64) rfl rfl (by kernel_rfl) (by kernel_rfl) (by kernel_rfl) (by rfl) hHeld (fun _ _ _ h => h) ?_
         simp only [Act.put, List.setIfInBounds_toArray, List.set_cons_zero, List.set_cons_succ]
         refine heldSkip 49 (some 65) rfl rfl (by kernel_rfl) (by kernel_rfl) (by kernel_rfl) (by rfl) hHeld (fun _ _ _ h => h) ?_
         simp only [Act.put, List.setIfInBounds_toArray, List.set_cons_zero, List.set_cons_succ]
         refine heldTake 50 (some 66) (v := ?_) rfl rfl (by kernel_rfl) (by kernel_rfl) (by kernel_rfl) (by rfl) hHeld (fun _ _ _ h => h) ?_ ?_
         rotate_left
         ·intro w' hSw; (try dsimp only at hSw); go_simp <;> with_reducible rfl
         simp only [Act.put, List.setIfInBounds_toArray, List.set_cons_zero, List.set_cons_succ]
         refine wpAnyH_done (by kernel_rfl) ?_ _
         refine NoPanic.normal ?_
         have HZ : Hid (Below w.heap.size w _) := Lib.hid hHeld
         go_wp2_with fail
         go_ret
         exact ⟨by rw [HFR.out] <;> rfl, HZ.out⟩
        case true =>
         have GG27 : Hid (eqS x3 y3 = true) := Lib.hid ee27
         have ff27 : (x3.toList != y3.toList) = false := by rw [bne, ee27]; rfl
         cases ee28 : (x4.toList == y4.toList)
         case false =>
          have gg28 : Hid (eqS x4 y4 = false) := Lib.hid ee28
          have ff28 : (x4.toList != y4.toList) = true := by rw [bne, ee28]; rfl
          have HF : Hid (bo = false) := Lib.hid (by rw [HRX.out, GG23.out, GG24.out, GG25.out, GG26.out, GG27.out, gg28.out] <;> first | rfl | (simp; done))
          have HE : Hid (v1 = false) := Lib.hid (by rw [← HG2.out, HF.out]; rfl)
          have HFR : Hid (rs = false) := Lib.hid (by rw [HR.out, HE.out] <;> simp)
          refine heldTake 35 (some 51) (v := ?_) rfl rfl (by kernel_rfl) (by kernel_rfl) (by kernel_rfl) (by rfl) hHeld (fun _ _ _ h => h) ?_ ?_
          rotate_left
          ·intro w' hSw; (try dsimp only at hSw); go_simp <;> with_reducible rfl
          simp only [Act.put, List.setIfInBounds_toArray, List.set_cons_zero, List.set_cons_succ]
          refine heldTake 36 (some 52) (v := ?_) rfl rfl (by kernel_rfl) (by kernel_rfl) (by kernel_rfl) (by rfl) hHeld (fun _ _ _ h => h) ?_ ?_
          rotate_left
          ·intro w' hSw; (try dsimp only at hSw); go_simp <;> with_reducible rfl
          simp only [Act.put, List.setIfInBounds_toArray, List.set_cons_zero, List.set_cons_succ]
          refine heldTake 37 (some 53) (v := ?_) rfl rfl (by kernel_rfl) (by kernel_rfl) (by kernel_rfl) (by rfl) hHeld (fun _ _ _ h => h) ?_ ?_
          rotate_left
          ·intro w' hSw; (try dsimp only at hSw); go_simp <;> with_reducible rfl
          simp only [Act.put, List.setIfInBounds_toArray, List.set_cons_zero, List.set_cons_succ]
          refine heldSkip 38 (some 54) rfl rfl (by kernel_rfl) (by kernel_rfl) (by kernel_rfl) (by rfl) hHeld (fun _ _ _ h => h) ?_
          simp only [Act.put, List.setIfInBounds_toArray, List.set_cons_zero, List.set_cons_succ]
          refine heldSkip 39 (some 55) rfl rfl (by kernel_rfl) (by kernel_rfl) (by kernel_rfl) (by rfl) hHeld (fun _ _ _ h => h) ?_
          simp only [Act.put, List.setIfInBounds_toArray, List.set_cons_zero, List.set_cons_succ]
          refine heldSkip 40 (some 56) rfl rfl (by kernel_rfl) (by kernel_rfl) (by kernel_rfl) (by rfl) hHeld (fun _ _ _ h => h) ?_
          simp only [Act.put, List.setIfInBounds_toArray, List.set_cons_zero, List.set_cons_succ]
          refine heldSkip 41 (some 57) rfl rfl (by kernel_rfl) (by kernel_rfl) (by kernel_rfl) (by rfl) hHeld (fun _ _ _ h => h) ?_
          simp only [Act.put, List.setIfInBounds_toArray, List.set_cons_zero, List.set_cons_succ]
          refine heldSkip 42 (some 58) rfl rfl (by kernel_rfl) (by kernel_rfl) (by kernel_rfl) (by rfl) hHeld (fun _ _ _ h => h) ?_
          simp only [Act.put, List.setIfInBounds_toArray, List.set_cons_zero, List.set_cons_succ]
          refine heldSkip 43 (some 59) rfl rfl (by kernel_rfl) (by kernel_rfl) (by kernel_rfl) (by rfl) hHeld (fun _ _ _ h => h) ?_
          simp only [Act.put, List.setIfInBounds_toArray, List.set_cons_zero, List.set_cons_succ]
          refine heldSkip 44 (some 60) rfl rfl (by kernel_rfl) (by kernel_rfl) (by kernel_rfl) (by rfl) hHeld (fun _ _ _ h => h) ?_
          simp only [Act.put, List.setIfInBounds_toArray, List.set_cons_zero, List.set_cons_succ]
          refine heldSkip 45 (some 61) rfl rfl (by kernel_rfl) (by kernel_rfl) (by kernel_rfl) (by rfl) hHeld (fun _ _ _ h => h) ?_
          simp only [Act.put, List.setIfInBounds_toArray, List.set_cons_zero, List.set_cons_succ]
          refine heldSkip 46 (some 62) rfl rfl (by kernel_rfl) (by kernel_rfl) (by kernel_rfl) (by rfl) hHeld (fun _ _ _ h => h) ?_
          simp only [Act.put, List.setIfInBounds_toArray, List.set_cons_zero, List.set_cons_succ]
          refine heldSkip 47 (some 63) rfl rfl (by kernel_rfl) (by kernel_rfl) (by kernel_rfl) (by rfl) hHeld (fun _ _ _ h => h) ?_
          simp only [Act.put, List.setIfInBounds_toArray, List.set_cons_zero, List.set_cons_succ]
          refine heldSkip 48 (some 64) rfl rfl (by kernel_rfl) (by kernel_rfl) (by kernel_rfl) (by rfl) hHeld (fun _ _ _ h => h) ?_
          simp only [Act.put, List.setIfInBounds_toArray, List.set_cons_zero, List.set_cons_succ]
          refine heldSkip 49 (some 65) rfl rfl (by kernel_rfl) (by kernel_rfl) (by kernel_rfl) (by rfl) hHeld (fun _ _ _ h => h) ?_
          simp only [Act.put, List.setIfInBounds_toArray, List.set_cons_zero, List.set_cons_succ]
          refine heldTake 50 (some 66) (v := ?_) rfl rfl (by kernel_rfl) (by kernel_rfl) (by kernel_rfl) (by rfl) hHeld (fun _ _ _ h => h) ?_ ?_
          rotate_left
          ·intro w' hSw; (try dsimp only at hSw); go_simp <;> with_reducible rfl
          simp only [Act.put, List.setIfInBounds_toArray, List.set_cons_zero, List.set_cons_succ]
          refine wpAnyH_done (by kernel_rfl) ?_ _
          refine NoPanic.normal ?_
          have HZ : Hid (Below w.heap.size w _) := Lib.hid hHeld
          go_wp2_with fail
          go_ret
          exact ⟨by rw [HFR.out] <;> rfl, HZ.out⟩
         case true =>
          have GG28 : Hid (eqS x4 y4 = true) := Lib.hid ee28
          have ff28 : (x4.toList != y4.toList) = false := by rw [bne, ee28]; rfl
          by_cases tt29 : x5 = y5
          case neg =>
           have gg29 : Hid (decide (x5 = y5) = false) := Lib.hid (decide_eq_false tt29)
           have ee29 : (x5 == y5) = false := by simpa using tt29
           have ff29 : (x5 != y5) = true := by simpa using tt29
           have HF : Hid (bo = false) := Lib.hid (by rw [HRX.out, GG23.out, GG24.out, GG25.out, GG26.out, GG27.out, GG28.out, gg29.out] <;> first | rfl | (simp; done))
           have HE : Hid (v1 = false) := Lib.hid (by rw [← HG2.out, HF.out]; rfl)
           have HFR : Hid (rs = false) := Lib.hid (by rw [HR.out, HE.out] <;> simp)
           refine heldTake 35 (some 51) (v := ?_) rfl rfl (by kernel_rfl) (by kernel_rfl) (by kernel_rfl) (by rfl) hHeld (fun _ _ _ h => h) ?_ ?_
           rotate_left
           ·intro w' hSw; (try dsimp only at hSw); go_simp <;> with_reducible rfl
           simp only [Act.put, List.setIfInBounds_toArray, List.set_cons_zero, List.set_cons_succ]
           refine heldTake 36 (some 52) (v := ?_) rfl rfl (by kernel_rfl) (by kernel_rfl) (by kernel_rfl) (by rfl) hHeld (fun _ _ _ h => h) ?_ ?_
           rotate_left
           ·intro w' hSw; (try dsimp only at hSw); go_simp <;> with_reducible rfl
           simp only [Act.put, List.setIfInBounds_toArray, List.set_cons_zero, List.set_cons_succ]
           refine heldTake 37 (some 53) (v := ?_) rfl rfl (by kernel_rfl) (by kernel_rfl) (by kernel_rfl) (by rfl) hHeld (fun _ _ _ h => h) ?_ ?_
           rotate_left
           ·intro w' hSw; (try dsimp only at hSw); go_simp <;> with_reducible rfl
           simp only [Act.put, List.setIfInBounds_toArray, List.set_cons_zero, List.set_cons_succ]
           refine heldSkip 38 (some 54) rfl rfl (by kernel_rfl) (by kernel_rfl) (by kernel_rfl) (by rfl) hHeld (fun _ _ _ h => h) ?_
           simp only [Act.put, List.setIfInBounds_toArray, List.set_cons_zero, List.set_cons_succ]
           refine heldSkip 39 (some 55) rfl rfl (by kernel_rfl) (by kernel_rfl) (by kernel_rfl) (by rfl) hHeld (fun _ _ _ h => h) ?_
           simp only [Act.put, List.setIfInBounds_toArray, List.set_cons_zero, List.set_cons_succ]
           refine heldSkip 40 (some 56) rfl rfl (by kernel_rfl) (by kernel_rfl) (by kernel_rfl) (by rfl) hHeld (fun _ _ _ h => h) ?_
           simp only [Act.put, List.setIfInBounds_toArray, List.set_cons_zero, List.set_cons_succ]
           refine heldSkip 41 (some 57) rfl rfl (by kernel_rfl) (by kernel_rfl) (by kernel_rfl) (by rfl) hHeld (fun _ _ _ h => h) ?_
           simp only [Act.put, List.setIfInBounds_toArray, List.set_cons_zero, List.set_cons_succ]
           refine heldSkip 42 (some 58) rfl rfl (by kernel_rfl) (by kernel_rfl) (by kernel_rfl) (by rfl) hHeld (fun _ _ _ h => h) ?_
           simp only [Act.put, List.setIfInBounds_toArray, List.set_cons_zero, List.set_cons_succ]
           refine heldSkip 43 (some 59) rfl rfl (by kernel_rfl) (by kernel_rfl) (by kernel_rfl) (by rfl) hHeld (fun _ _ _ h => h) ?_
           simp only [Act.put, List.setIfInBounds_toArray, List.set_cons_zero, List.set_cons_succ]
           refine heldSkip 44 (some 60) rfl rfl (by kernel_rfl) (by kernel_rfl) (by kernel_rfl) (by rfl) hHeld (fun _ _ _ h => h) ?_
           simp only [Act.put, List.setIfInBounds_toArray, List.set_cons_zero, List.set_cons_succ]
           refine heldSkip 45 (some 61) rfl rfl (by kernel_rfl) (by kernel_rfl) (by kernel_rfl) (by rfl) hHeld (fun _ _ _ h => h) ?_
           simp only [Act.put, List.setIfInBounds_toArray, List.set_cons_zero, List.set_cons_succ]
           refine heldSkip 46 (some 62) rfl rfl (by kernel_rfl) (by kernel_rfl) (by kernel_rfl) (by rfl) hHeld (fun _ _ _ h => h) ?_
           simp only [Act.put, List.setIfInBounds_toArray, List.set_cons_zero, List.set_cons_succ]
           refine heldSkip 47 (some 63) rfl rfl (by kernel_rfl) (by kernel_rfl) (by kernel_rfl) (by rfl) hHeld (fun _ _ _ h => h) ?_
           simp only [Act.put, List.setIfInBounds_toArray, List.set_cons_zero, List.set_cons_succ]
           refine heldSkip 48 (some 64) rfl rfl (by kernel_rfl) (by kernel_rfl) (by kernel_rfl) (by rfl) hHeld (fun _ _ _ h => h) ?_
           simp only [Act.put, List.setIfInBounds_toArray, List.set_cons_zero, List.set_cons_succ]
           refine heldSkip 49 (some 65) rfl rfl (by kernel_rfl) (by kernel_rfl) (by kernel_rfl) (by rfl) hHeld (fun _ _ _ h => h) ?_
           simp only [Act.put, List.setIfInBounds_toArray, List.set_cons_zero, List.set_cons_succ]
           refine heldTake 50 (some 66) (v := ?_) rfl rfl (by kernel_rfl) (by kernel_rfl) (by kernel_rfl) (by rfl) hHeld (fun _ _ _ h => h) ?_ ?_
           rotate_left
           ·intro w' hSw; (try dsimp only at hSw); go_simp <;> with_reducible rfl
           simp only [Act.put, List.setIfInBounds_toArray, List.set_cons_zero, List.set_cons_succ]
           refine wpAnyH_done (by kernel_rfl) ?_ _
           refine NoPanic.normal ?_
           have HZ : Hid (Below w.heap.size w _) := Lib.hid hHeld
           go_wp2_with fail
           go_ret
           exact ⟨by rw [HFR.out] <;> rfl, HZ.out⟩
          case pos =>
           have GG29 : Hid (decide (x5 = y5) = true) := Lib.hid (decide_eq_true tt29)
           have ee29 : (x5 == y5) = true := by simpa using tt29
           have ff29 : (x5 != y5) = false := by simpa using tt29
           clear tt29
           cases ee30 : (x6 == y6)
           case false =>
            have GG30 := Lib.hid ee30
            have ff30 : (x6 != y6) = true := by rw [bne, ee30]; rfl
            have HF : Hid (bo = false) := Lib.hid (by rw [HRX.out, GG23.out, GG24.out, GG25.out, GG26.out, GG27.out, GG28.out, GG29.out, GG30.out] <;> first | rfl | (simp; done))
            have HE : Hid (v1 = false) := Lib.hid (by rw [← HG2.out, HF.out]; rfl)
            have HFR : Hid (rs = false) := Lib.hid (by rw [HR.out, HE.out] <;> simp)
            refine heldTake 35 (some 51) (v := ?_) rfl rfl (by kernel_rfl) (by kernel_rfl) (by kernel_rfl) (by rfl) hHeld (fun _ _ _ h => h) ?_ ?_
            rotate_left
            ·intro w' hSw; (try dsimp only at hSw); go_simp <;> with_reducible rfl
            simp only [Act.put, List.setIfInBounds_toArray, List.set_cons_zero, List.set_cons_succ]
            refine heldTake 36 (some 52) (v := ?_) rfl rfl (by kernel_rfl) (by kernel_rfl) (by kernel_rfl) (by rfl) hHeld (fun _ _ _ h => h) ?_ ?_
            rotate_left
            ·intro w' hSw; (try dsimp only at hSw); go_simp <;> with_reducible rfl
            simp only [Act.put, List.setIfInBounds_toArray, List.set_cons_zero, List.set_cons_succ]
            refine heldTake 37 (some 53) (v := ?_) rfl rfl (by kernel_rfl) (by kernel_rfl) (by kernel_rfl) (by rfl) hHeld (fun _ _ _ h => h) ?_ ?_
            rotate_left
            ·intro w' hSw; (try dsimp only at hSw); go_simp <;> with_reducible rfl
            simp only [Act.put, List.setIfInBounds_toArray, List.set_cons_zero, List.set_cons_succ]
            refine heldSkip 38 (some 54) rfl rfl (by kernel_rfl) (by kernel_rfl) (by kernel_rfl) (by rfl) hHeld (fun _ _ _ h => h) ?_
            simp only [Act.put, List.setIfInBounds_toArray, List.set_cons_zero, List.set_cons_succ]
            refine heldSkip 39 (some 55) rfl rfl (by kernel_rfl) (by kernel_rfl) (by kernel_rfl) (by rfl) hHeld (fun _ _ _ h => h) ?_
            simp only [Act.put, List.setIfInBounds_toArray, List.set_cons_zero, List.set_cons_succ]
            refine heldSkip 40 (some 56) rfl rfl (by kernel_rfl) (by kernel_rfl) (by kernel_rfl) (by rfl) hHeld (fun _ _ _ h => h) ?_
            simp only [Act.put, List.setIfInBounds_toArray, List.set_cons_zero, List.set_cons_succ]
            refine heldSkip 41 (some 57) rfl rfl (by kernel_rfl) (by kernel_rfl) (by kernel_rfl) (by rfl) hHeld (fun _ _ _ h => h) ?_
            simp only [Act.put, List.setIfInBounds_toArray, List.set_cons_zero, List.set_cons_succ]
            refine heldSkip 42 (some 58) rfl rfl (by kernel_rfl) (by kernel_rfl) (by kernel_rfl) (by rfl) hHeld (fun _ _ _ h => h) ?_
            simp only [Act.put, List.setIfInBounds_toArray, List.set_cons_zero, List.set_cons_succ]
            refine heldSkip 43 (some 59) rfl rfl (by kernel_rfl) (by kernel_rfl) (by kernel_rfl) (by rfl) hHeld (fun _ _ _ h => h) ?_
            simp only [Act.put, List.setIfInBounds_toArray, List.set_cons_zero, List.set_cons_succ]
            refine heldSkip 44 (some 60) rfl rfl (by kernel_rfl) (by kernel_rfl) (by kernel_rfl) (by rfl) hHeld (fun _ _ _ h => h) ?_
            simp only [Act.put, List.setIfInBounds_toArray, List.set_cons_zero, List.set_cons_succ]
            refine heldSkip 45 (some 61) rfl rfl (by kernel_rfl) (by kernel_rfl) (by kernel_rfl) (by rfl) hHeld (fun _ _ _ h => h) ?_
            simp only [Act.put, List.setIfInBounds_toArray, List.set_cons_zero, List.set_cons_succ]
            refine heldSkip 46 (some 62) rfl rfl (by kernel_rfl) (by kernel_rfl) (by kernel_rfl) (by rfl) hHeld (fun _ _ _ h => h) ?_
            simp only [Act.put, List.setIfInBounds_toArray, List.set_cons_zero, List.set_cons_succ]
            refine heldSkip 47 (some 63) rfl rfl (by kernel_rfl) (by kernel_rfl) (by kernel_rfl) (by rfl) hHeld (fun _ _ _ h => h) ?_
            simp only [Act.put, List.setIfInBounds_toArray, List.set_cons_zero, List.set_cons_succ]
            refine heldSkip 48 (some 64) rfl rfl (by kernel_rfl) (by kernel_rfl) (by kernel_rfl) (by rfl) hHeld (fun _ _ _ h => h) ?_
            simp only [Act.put, List.setIfInBounds_toArray, List.set_cons_zero, List.set_cons_succ]
            refine heldSkip 49 (some 65) rfl rfl (by kernel_rfl) (by kernel_rfl) (by kernel_rfl) (by rfl) hHeld (fun _ _ _ h => h) ?_
            simp only [Act.put, List.setIfInBounds_toArray, List.set_cons_zero, List.set_cons_succ]
            refine heldTake 50 (some 66) (v := ?_) rfl rfl (by kernel_rfl) (by kernel_rfl) (by kernel_rfl) (by rfl) hHeld (fun _ _ _ h => h) ?_ ?_
            rotate_left
            ·intro w' hSw; (try dsimp only at hSw); go_simp <;> with_reducible rfl
            simp only [Act.put, List.setIfInBounds_toArray, List.set_cons_zero, List.set_cons_succ]
            refine wpAnyH_done (by kernel_rfl) ?_ _
            refine NoPanic.normal ?_
            have HZ : Hid (Below w.heap.size w _) := Lib.hid hHeld
            go_wp2_with fail
            go_ret
            exact ⟨by rw [HFR.out] <;> rfl, HZ.out⟩
           case true =>
            have GG30 := Lib.hid ee30
            have ff30 : (x6 != y6) = false := by rw [bne, ee30]; rfl
            by_cases tt31 : x7 = y7
            case neg =>
             have gg31 : Hid (decide (x7 = y7) = false) := Lib.hid (decide_eq_false tt31)
             have ee31 : (x7 == y7) = false := by simpa using tt31
             have ff31 : (x7 != y7) = true := by simpa using tt31
             have HF : Hid (bo = false) := Lib.hid (by rw [HRX.out, GG23.out, GG24.out, GG25.out, GG26.out, GG27.out, GG28.out, GG29.out, GG30.out, gg31.out] <;> first | rfl | (simp; done))
             have HE : Hid (v1 = false) := Lib.hid (by rw [← HG2.out, HF.out]; rfl)
             have HFR : Hid (rs = false) := Lib.hid (by rw [HR.out, HE.out] <;> simp)
             refine heldTake 35 (some 51) (v := ?_) rfl rfl (by kernel_rfl) (by kernel_rfl) (by kernel_rfl) (by rfl) hHeld (fun _ _ _ h => h) ?_ ?_
             rotate_left
             ·intro w' hSw; (try dsimp only at hSw); go_simp <;> with_reducible rfl
             simp only [Act.put, List.setIfInBounds_toArray, List.set_cons_zero, List.set_cons_succ]
             refine heldTake 36 (some 52) (v := ?_) rfl rfl (by kernel_rfl) (by kernel_rfl) (by kernel_rfl) (by rfl) hHeld (fun _ _ _ h => h) ?_ ?_
             rotate_left
             ·intro w' hSw; (try dsimp only at hSw); go_simp <;> with_reducible rfl
             simp only [Act.put, List.setIfInBounds_toArray, List.set_cons_zero, List.set_cons_succ]
             refine heldTake 37 (some 53) (v := ?_) rfl rfl (by kernel_rfl) (by kernel_rfl) (by kernel_rfl) (by rfl) hHeld (fun _ _ _ h => h) ?_ ?_
             rotate_left
             ·intro w' hSw; (try dsimp only at hSw); go_simp <;> with_reducible rfl
             simp only [Act.put, List.setIfInBounds_toArray, List.set_cons_zero, List.set_cons_succ]
             refine heldSkip 38 (some 54) rfl rfl (by kernel_rfl) (by kernel_rfl) (by kernel_rfl) (by rfl) hHeld (fun _ _ _ h => h) ?_
             simp only [Act.put, List.setIfInBounds_toArray, List.set_cons_zero, List.set_cons_succ]
             refine heldSkip 39 (some 55) rfl rfl (by kernel_rfl) (by kernel_rfl) (by kernel_rfl) (by rfl) hHeld (fun _ _ _ h => h) ?_
             simp only [Act.put, List.setIfInBounds_toArray, List.set_cons_zero, List.set_cons_succ]
             refine heldSkip 40 (some 56) rfl rfl (by kernel_rfl) (by kernel_rfl) (by kernel_rfl) (by rfl) hHeld (fun _ _ _ h => h) ?_
             simp only [Act.put, List.setIfInBounds_toArray, List.set_cons_zero, List.set_cons_succ]
             refine heldSkip 41 (some 57) rfl rfl (by kernel_rfl) (by kernel_rfl) (by kernel_rfl) (by rfl) hHeld (fun _ _ _ h => h) ?_
             simp only [Act.put, List.setIfInBounds_toArray, List.set_cons_zero, List.set_cons_succ]
             refine heldSkip 42 (some 58) rfl rfl (by kernel_rfl) (by kernel_rfl) (by kernel_rfl) (by rfl) hHeld (fun _ _ _ h => h) ?_
             simp only [Act.put, List.setIfInBounds_toArray, List.set_cons_zero, List.set_cons_succ]
             refine heldSkip 43 (some 59) rfl rfl (by kernel_rfl) (by kernel_rfl) (by kernel_rfl) (by rfl) hHeld (fun _ _ _ h => h) ?_
             simp only [Act.put, List.setIfInBounds_toArray, List.set_cons_zero, List.set_cons_succ]
             refine heldSkip 44 (some 60) rfl rfl (by kernel_rfl) (by kernel_rfl) (by kernel_rfl) (by rfl) hHeld (fun _ _ _ h => h) ?_
             simp only [Act.put, List.setIfInBounds_toArray, List.set_cons_zero, List.set_cons_succ]
             refine heldSkip 45 (some 61) rfl rfl (by kernel_rfl) (by kernel_rfl) (by kernel_rfl) (by rfl) hHeld (fun _ _ _ h => h) ?_
             simp only [Act.put, List.setIfInBounds_toArray, List.set_cons_zero, List.set_cons_succ]
             refine heldSkip 46 (some 62) rfl rfl (by kernel_rfl) (by kernel_rfl) (by kernel_rfl) (by rfl) hHeld (fun _ _ _ h => h) ?_
             simp only [Act.put, List.setIfInBounds_toArray, List.set_cons_zero, List.set_cons_succ]
             refine heldSkip 47 (some 63) rfl rfl (by kernel_rfl) (by kernel_rfl) (by kernel_rfl) (by rfl) hHeld (fun _ _ _ h => h) ?_
             simp only [Act.put, List.setIfInBounds_toArray, List.set_cons_zero, List.set_cons_succ]
             refine heldSkip 48 (some 64) rfl rfl (by kernel_rfl) (by kernel_rfl) (by kernel_rfl) (by rfl) hHeld (fun _ _ _ h => h) ?_
             simp only [Act.put, List.setIfInBounds_toArray, List.set_cons_zero, List.set_cons_succ]
             refine heldSkip 49 (some 65) rfl rfl (by kernel_rfl) (by kernel_rfl) (by kernel_rfl) (by rfl) hHeld (fun _ _ _ h => h) ?_
             simp only [Act.put, List.setIfInBounds_toArray, List.set_cons_zero, List.set_cons_succ]
             refine heldTake 50 (some 66) (v := ?_) rfl rfl (by kernel_rfl) (by kernel_rfl) (by kernel_rfl) (by rfl) hHeld (fun _ _ _ h => h) ?_ ?_
             rotate_left
             ·intro w' hSw; (try dsimp only at hSw); go_simp <;> with_reducible rfl
             simp only [Act.put, List.setIfInBounds_toArray, List.set_cons_zero, List.set_cons_succ]
             refine wpAnyH_done (by kernel_rfl) ?_ _
             refine NoPanic.normal ?_
             have HZ : Hid (Below w.heap.size w _) := Lib.hid hHeld
             go_wp2_with fail
             go_ret
             exact ⟨by rw [HFR.out] <;> rfl, HZ.out⟩
            case pos =>
             have GG31 : Hid (decide (x7 = y7) = true) := Lib.hid (decide_eq_true tt31)
             have ee31 : (x7 == y7) = true := by simpa using tt31
             have ff31 : (x7 != y7) = false := by simpa using tt31
             clear tt31
             by_cases tt32 : x8 = y8
             case neg =>
              have gg32 : Hid (decide (x8 = y8) = false) := Lib.hid (decide_eq_false tt32)
              have ee32 : (x8 == y8) = false := by simpa using tt32
              have ff32 : (x8 != y8) = true := by simpa using tt32
              have HF : Hid (bo = false) := Lib.hid (by rw [HRX.out, GG23.out, GG24.out, GG25.out, GG26.out, GG27.out, GG28.out, GG29.out, GG30.out, GG31.out, gg32.out] <;> first | rfl | (simp; done))
              have HE : Hid (v1 = false) := Lib.hid (by rw [← HG2.out, HF.out]; rfl)
              have HFR : Hid (rs = false) := Lib.hid (by rw [HR.out, HE.out] <;> simp)
              refine heldTake 35 (some 51) (v := ?_) rfl rfl (by kernel_rfl) (by kernel_rfl) (by kernel_rfl) (by rfl) hHeld (fun _ _ _ h => h) ?_ ?_
              rotate_left
              ·intro w' hSw; (try dsimp only at hSw); go_simp <;> with_reducible rfl
              simp only [Act.put, List.setIfInBounds_toArray, List.set_cons_zero, List.set_cons_succ]
              refine heldTake 36 (some 52) (v := ?_) rfl rfl (by kernel_rfl) (by kernel_rfl) (by kernel_rfl) (by rfl) hHeld (fun _ _ _ h => h) ?_ ?_
              rotate_left
              ·intro w' hSw; (try dsimp only at hSw); go_simp <;> with_reducible rfl
              simp only [Act.put, List.setIfInBounds_toArray, List.set_cons_zero, List.set_cons_succ]
              refine heldTake 37 (some 53) (v := ?_) rfl rfl (by kernel_rfl) (by kernel_rfl) (by kernel_rfl) (by rfl) hHeld (fun _ _ _ h => h) ?_ ?_
              rotate_left
              ·intro w' hSw; (try dsimp only at hSw); go_simp <;> with_reducible rfl
              simp only [Act.put, List.setIfInBounds_toArray, List.set_cons_zero, List.set_cons_succ]
              refine heldSkip 38 (some 54) rfl rfl (by kernel_rfl) (by kernel_rfl) (by kernel_rfl) (by rfl) hHeld (fun _ _ _ h => h) ?_
              simp only [Act.put, List.setIfInBounds_toArray, List.set_cons_zero, List.set_cons_succ]
              refine heldSkip 39 (some 55) rfl rfl (by kernel_rfl) (by kernel_rfl) (by kernel_rfl) (by rfl) hHeld (fun _ _ _ h => h) ?_
              simp only [Act.put, List.setIfInBounds_toArray, List.set_cons_zero, List.set_cons_succ]
              refine heldSkip 40 (some 56) rfl rfl (by kernel_rfl) (by kernel_rfl) (by kernel_rfl) (by rfl) hHeld (fun _ _ _ h => h) ?_
              simp only [Act.put, List.setIfInBounds_toArray, List.set_cons_zero, List.set_cons_succ]
              refine heldSkip 41 (some 57) rfl rfl (by kernel_rfl) (by kernel_rfl) (by kernel_rfl) (by rfl) hHeld (fun _ _ _ h => h) ?_
              simp only [Act.put, List.setIfInBounds_toArray, List.set_cons_zero, List.set_cons_succ]
              refine heldSkip 42 (some 58) rfl rfl (by kernel_rfl) (by kernel_rfl) (by kernel_rfl) (by rfl) hHeld (fun _ _ _ h => h) ?_
              simp only [Act.put, List.setIfInBounds_toArray, List.set_cons_zero, List.set_cons_succ]
              refine heldSkip 43 (some 59) rfl rfl (by kernel_rfl) (by kernel_rfl) (by kernel_rfl) (by rfl) hHeld (fun _ _ _ h => h) ?_
              simp only [Act.put, List.setIfInBounds_toArray, List.set_cons_zero, List.set_cons_succ]
              refine heldSkip 44 (some 60) rfl rfl (by kernel_rfl) (by kernel_rfl) (by kernel_rfl) (by rfl) hHeld (fun _ _ _ h => h) ?_
              simp only [Act.put, List.setIfInBounds_toArray, List.set_cons_zero, List.set_cons_succ]
              refine heldSkip 45 (some 61) rfl rfl (by kernel_rfl) (by kernel_rfl) (by kernel_rfl) (by rfl) hHeld (fun _ _ _ h => h) ?_
              simp only [Act.put, List.setIfInBounds_toArray, List.set_cons_zero, List.set_cons_succ]
              refine heldSkip 46 (some 62) rfl rfl (by kernel_rfl) (by kernel_rfl) (by kernel_rfl) (by rfl) hHeld (fun _ _ _ h => h) ?_
              simp only [Act.put, List.setIfInBounds_toArray, List.set_cons_zero, List.set_cons_succ]
              refine heldSkip 47 (some 63) rfl rfl (by kernel_rfl) (by kernel_rfl) (by kernel_rfl) (by rfl) hHeld (fun _ _ _ h => h) ?_
              simp only [Act.put, List.setIfInBounds_toArray, List.set_cons_zero, List.set_cons_succ]
              refine heldSkip 48 (some 64) rfl rfl (by kernel_rfl) (by kernel_rfl) (by kernel_rfl) (by rfl) hHeld (fun _ _ _ h => h) ?_
              simp only [Act.put, List.setIfInBounds_toArray, List.set_cons_zero, List.set_cons_succ]
              refine heldSkip 49 (some 65) rfl rfl (by kernel_rfl) (by kernel_rfl) (by kernel_rfl) (by rfl) hHeld (fun _ _ _ h => h) ?_
              simp only [Act.put, List.setIfInBounds_toArray, List.set_cons_zero, List.set_cons_succ]
              refine heldTake 50 (some 66) (v := ?_) rfl rfl (by kernel_rfl) (by kernel_rfl) (by kernel_rfl) (by rfl) hHeld (fun _ _ _ h => h) ?_ ?_
              rotate_left
              ·intro w' hSw; (try dsimp only at hSw); go_simp <;> with_reducible rfl
              simp only [Act.put, List.setIfInBounds_toArray, List.set_cons_zero, List.set_cons_succ]
              refine wpAnyH_done (by kernel_rfl) ?_ _
              refine NoPanic.normal ?_
              have HZ : Hid (Below w.heap.size w _) := Lib.hid hHeld
              go_wp2_with fail
              go_ret
              exact ⟨by rw [HFR.out] <;> rfl, HZ.out⟩
             case pos =>
              have GG32 : Hid (decide (x8 = y8) = true) := Lib.hid (decide_eq_true tt32)
              have ee32 : (x8 == y8) = true := by simpa using tt32
              have ff32 : (x8 != y8) = false := by simpa using tt32
              clear tt32
              cases ee33 : (x9.toList == y9.toList)
              case false =>
               have gg33 : Hid (eqS x9 y9 = false) := Lib.hid ee33
               have ff33 : (x9.toList != y9.toList) = true := by rw [bne, ee33]; rfl
               have HF : Hid (bo = false) := Lib.hid (by rw [HRX.out, GG23.out, GG24.out, GG25.out, GG26.out, GG27.out, GG28.out, GG29.out, GG30.out, GG31.out, GG32.out, gg33.out] <;> first | rfl | (simp; done))
               have HE : Hid (v1 = false) := Lib.hid (by rw [← HG2.out, HF.out]; rfl)
               have HFR : Hid (rs = false) := Lib.hid (by rw [HR.out, HE.out] <;> simp)
               refine heldTake 35 (some 51) (v := ?_) rfl rfl (by kernel_rfl) (by kernel_rfl) (by kernel_rfl) (by rfl) hHeld (fun _ _ _ h => h) ?_ ?_
               rotate_left
               ·intro w' hSw; (try dsimp only at hSw); go_simp <;> with_reducible rfl
               simp only [Act.put, List.setIfInBounds_toArray, List.set_cons_zero, List.set_cons_succ]
               refine heldTake 36 (some 52) (v := ?_) rfl rfl (by kernel_rfl) (by kernel_rfl) (by kernel_rfl) (by rfl) hHeld (fun _ _ _ h => h) ?_ ?_
               rotate_left
               ·intro w' hSw; (try dsimp only at hSw); go_simp <;> with_reducible rfl
               simp only [Act.put, List.setIfInBounds_toArray, List.set_cons_zero, List.set_cons_succ]
               refine heldTake 37 (some 53) (v := ?_) rfl rfl (by kernel_rfl) (by kernel_rfl) (by kernel_rfl) (by rfl) hHeld (fun _ _ _ h => h) ?_ ?_
               rotate_left
               ·intro w' hSw; (try dsimp only at hSw); go_simp <;> with_reducible rfl
               simp only [Act.put, List.setIfInBounds_toArray, List.set_cons_zero, List.set_cons_succ]
               refine heldSkip 38 (some 54) rfl rfl (by kernel_rfl) (by kernel_rfl) (by kernel_rfl) (by rfl) hHeld (fun _ _ _ h => h) ?_
               simp only [Act.put, List.setIfInBounds_toArray, List.set_cons_zero, List.set_cons_succ]
               refine heldSkip 39 (some 55) rfl rfl (by kernel_rfl) (by kernel_rfl) (by kernel_rfl) (by rfl) hHeld (fun _ _ _ h => h) ?_
               simp only [Act.put, List.setIfInBounds_toArray, List.set_cons_zero, List.set_cons_succ]
               refine heldSkip 40 (some 56) rfl rfl (by kernel_rfl) (by kernel_rfl) (by kernel_rfl) (by rfl) hHeld (fun _ _ _ h => h) ?_
               simp only [Act.put, List.setIfInBounds_toArray, List.set_cons_zero, List.set_cons_succ]
               refine heldSkip 41 (some 57) rfl rfl (by kernel_rfl) (by kernel_rfl) (by kernel_rfl) (by rfl) hHeld (fun _ _ _ h => h) ?_
               simp only [Act.put, List.setIfInBounds_toArray, List.set_cons_zero, List.set_cons_succ]
               refine heldSkip 42 (some 58) rfl rfl (by kernel_rfl) (by kernel_rfl) (by kernel_rfl) (by rfl) hHeld (fun _ _ _ h => h) ?_
               simp only [Act.put, List.setIfInBounds_toArray, List.set_cons_zero, List.set_cons_succ]
               refine heldSkip 43 (some 59) rfl rfl (by kernel_rfl) (by kernel_rfl) (by kernel_rfl) (by rfl) hHeld (fun _ _ _ h => h) ?_
               simp only [Act.put, List.setIfInBounds_toArray, List.set_cons_zero, List.set_cons_succ]
               refine heldSkip 44 (some 60) rfl rfl (by kernel_rfl) (by kernel_rfl) (by kernel_rfl) (by rfl) hHeld (fun _ _ _ h => h) ?_
               simp only [Act.put, List.setIfInBounds_toArray, List.set_cons_zero, List.set_cons_succ]
               refine heldSkip 45 (some 61) rfl rfl (by kernel_rfl) (by kernel_rfl) (by kernel_rfl) (by rfl) hHeld (fun _ _ _ h => h) ?_
               simp only [Act.put, List.setIfInBounds_toArray, List.set_cons_zero, List.set_cons_succ]
               refine heldSkip 46 (some 62) rfl rfl (by kernel_rfl) (by kernel_rfl) (by kernel_rfl) (by rfl) hHeld (fun _ _ _ h => h) ?_
               simp only [Act.put, List.setIfInBounds_toArray, List.set_cons_zero, List.set_cons_succ]
               refine heldSkip 47 (some 63) rfl rfl (by kernel_rfl) (by kernel_rfl) (by kernel_rfl) (by rfl) hHeld (fun _ _ _ h => h) ?_
               simp only [Act.put, List.setIfInBounds_toArray, List.set_cons_zero, List.set_cons_succ]
               refine heldSkip 48 (some 64) rfl rfl (by kernel_rfl) (by kernel_rfl) (by kernel_rfl) (by rfl) hHeld (fun _ _ _ h => h) ?_
               simp only [Act.put, List.setIfInBounds_toArray, List.set_cons_zero, List.set_cons_succ]
               refine heldSkip 49 (some 65) rfl rfl (by kernel_rfl) (by kernel_rfl) (by kernel_rfl) (by rfl) hHeld (fun _ _ _ h => h) ?_
               simp only [Act.put, List.setIfInBounds_toArray, List.set_cons_zero, List.set_cons_succ]
               refine heldTake 50 (some 66) (v := ?_) rfl rfl (by kernel_rfl) (by kernel_rfl) (by kernel_rfl) (by rfl) hHeld (fun _ _ _ h => h) ?_ ?_
               rotate_left
               ·intro w' hSw; (try dsimp only at hSw); go_simp <;> with_reducible rfl
               simp only [Act.put, List.setIfInBounds_toArray, List.set_cons_zero, List.set_cons_succ]
               refine wpAnyH_done (by kernel_rfl) ?_ _
               refine NoPanic.normal ?_
               have HZ : Hid (Below w.heap.size w _) := Lib.hid hHeld
               go_wp2_with fail
               go_ret
               exact ⟨by rw [HFR.out] <;> rfl, HZ.out⟩
              case true =>
               have GG33 : Hid (eqS x9 y9 = true) := Lib.hid ee33
               have ff33 : (x9.toList != y9.toList) = false := by rw [bne, ee33]; rfl
               refine heldTake 35 (some 51) (v := ?_) rfl rfl (by kernel_rfl) (by kernel_rfl) (by kernel_rfl) (by rfl) hHeld (fun _ _ _ h => h) ?_ ?_
               rotate_left
               ·intro w' hSw; (try dsimp only at hSw); go_simp <;> with_reducible rfl
               simp only [Act.put, List.setIfInBounds_toArray, List.set_cons_zero, List.set_cons_succ]
               refine heldTake 36 (some 52) (v := ?_) rfl rfl (by kernel_rfl) (by kernel_rfl) (by kernel_rfl) (by rfl) hHeld (fun _ _ _ h => h) ?_ ?_
               rotate_left
               ·intro w' hSw; (try dsimp only at hSw); go_simp <;> with_reducible rfl
               simp only [Act.put, List.setIfInBounds_toArray, List.set_cons_zero, List.set_cons_succ]
               refine heldTake 37 (some 53) (v := ?_) rfl rfl (by kernel_rfl) (by kernel_rfl) (by kernel_rfl) (by rfl) hHeld (fun _ _ _ h => h) ?_ ?_
               rotate_left
               ·intro w' hSw; (try dsimp only at hSw); go_simp <;> with_reducible rfl
               simp only [Act.put, List.setIfInBounds_toArray, List.set_cons_zero, List.set_cons_succ]
               refine heldTake 38 (some 54) (v := ?_) rfl rfl (by kernel_rfl) (by kernel_rfl) (by kernel_rfl) (by rfl) hHeld (fun _ _ _ h => h) ?_ ?_
               rotate_left
               ·intro w' hSw; (try dsimp only at hSw); go_simp <;> with_reducible rfl
               simp only [Act.put, List.setIfInBounds_toArray, List.set_cons_zero, List.set_cons_succ]
               refine heldTake 39 (some 55) (v := ?_) rfl rfl (by kernel_rfl) (by kernel_rfl) (by kernel_rfl) (by rfl) hHeld (fun _ _ _ h => h) ?_ ?_
               rotate_left
               ·intro w' hSw; (try dsimp only at hSw); go_simp <;> with_reducible rfl
               simp only [Act.put, List.setIfInBounds_toArray, List.set_cons_zero, List.set_cons_succ]
               refine heldTake 40 (some 56) (v := ?_) rfl rfl (by kernel_rfl) (by kernel_rfl) (by kernel_rfl) (by rfl) hHeld (fun _ _ _ h => h) ?_ ?_
               rotate_left
               ·intro w' hSw; (try dsimp only at hSw); go_simp <;> with_reducible rfl
               simp only [Act.put, List.setIfInBounds_toArray, List.set_cons_zero, List.set_cons_succ]
               refine heldTake 41 (some 57) (v := ?_) rfl rfl (by kernel_rfl) (by kernel_rfl) (by kernel_rfl) (by rfl) hHeld (fun _ _ _ h => h) ?_ ?_
               rotate_left
               ·intro w' hSw; (try dsimp only at hSw); go_simp <;> with_reducible rfl
               simp only [Act.put, List.setIfInBounds_toArray, List.set_cons_zero, List.set_cons_succ]
               refine heldTake 42 (some 58) (v := ?_) rfl rfl (by kernel_rfl) (by kernel_rfl) (by kernel_rfl) (by rfl) hHeld (fun _ _ _ h => h) ?_ ?_
               rotate_left
               ·intro w' hSw; (try dsimp only at hSw); have q2 : w'.cell? ⟨b, off + k * 16 + 2, none⟩ = some (.string xnm) := (World.cell?_of_block (hSw.block _ HBL.out)).trans g2; have q3 : w'.cell? ⟨b, off + k * 16 + 3, none⟩ = some (.slice xcolA xcols.length xcolC) := (World.cell?_of_block (hSw.block _ HBL.out)).trans g3; have q4 : w'.cell? ⟨b, off + k * 16 + 4, none⟩ = some (.slice xkeyA xkey.length xkeyC) := (World.cell?_of_block (hSw.block _ HBL.out)).trans g4; have q5 : w'.cell? ⟨b, off + k * 16 + 5, none⟩ = some (.slice xforA xfors.length xforC) := (World.cell?_of_block (hSw.block _ HBL.out)).trans g5; have q6 : w'.cell? ⟨b, off + k * 16 + 6, none⟩ = some (.slice xchkA xchks.length xchkC) := (World.cell?_of_block (hSw.block _ HBL.out)).trans g6; go_simp <;> with_reducible rfl
               simp only [Act.put, List.setIfInBounds_toArray, List.set_cons_zero, List.set_cons_succ]
               refine heldTake 43 (some 59) (v := ?_) rfl rfl (by kernel_rfl) (by kernel_rfl) (by kernel_rfl) (by rfl) hHeld (fun _ _ _ h => h) ?_ ?_
               rotate_left
               ·intro w' hSw; (try dsimp only at hSw); go_simp <;> with_reducible rfl
               simp only [Act.put, List.setIfInBounds_toArray, List.set_cons_zero, List.set_cons_succ]
               refine heldTake 44 (some 60) (v := ?_) rfl rfl (by kernel_rfl) (by kernel_rfl) (by kernel_rfl) (by rfl) hHeld (fun _ _ _ h => h) ?_ ?_
               rotate_left
               ·intro w' hSw; (try dsimp only at hSw); go_simp <;> with_reducible rfl
               simp only [Act.put, List.setIfInBounds_toArray, List.set_cons_zero, List.set_cons_succ]
               refine heldTake 45 (some 61) (v := ?_) rfl rfl (by kernel_rfl) (by kernel_rfl) (by kernel_rfl) (by rfl) hHeld (fun _ _ _ h => h) ?_ ?_
               rotate_left
               ·intro w' hSw; (try dsimp only at hSw); go_simp <;> with_reducible rfl
               simp only [Act.put, List.setIfInBounds_toArray, List.set_cons_zero, List.set_cons_succ]
               refine heldTake 46 (some 62) (v := ?_) rfl rfl (by kernel_rfl) (by kernel_rfl) (by kernel_rfl) (by rfl) hHeld (fun _ _ _ h => h) ?_ ?_
               rotate_left
               ·intro w' hSw; (try dsimp only at hSw); go_simp <;> with_reducible rfl
               simp only [Act.put, List.setIfInBounds_toArray, List.set_cons_zero, List.set_cons_succ]
               refine heldTake 47 (some 63) (v := ?_) rfl rfl (by kernel_rfl) (by kernel_rfl) (by kernel_rfl) (by rfl) hHeld (fun _ _ _ h => h) ?_ ?_
               rotate_left
               ·intro w' hSw; (try dsimp only at hSw); have q2 : w'.cell? ⟨b', off' + k * 16 + 2, none⟩ = some (.string ynm) := (World.cell?_of_block (hSw.block _ HBM.out)).trans h2; have q3 : w'.cell? ⟨b', off' + k * 16 + 3, none⟩ = some (.slice ycolA ycols.length ycolC) := (World.cell?_of_block (hSw.block _ HBM.out)).trans h3; have q4 : w'.cell? ⟨b', off' + k * 16 + 4, none⟩ = some (.slice ykeyA ykey.length ykeyC) := (World.cell?_of_block (hSw.block _ HBM.out)).trans h4; have q5 : w'.cell? ⟨b', off' + k * 16 + 5, none⟩ = some (.slice yforA yfors.length yforC) := (World.cell?_of_block (hSw.block _ HBM.out)).trans h5; have q6 : w'.cell? ⟨b', off' + k * 16 + 6, none⟩ = some (.slice ychkA ychks.length ychkC) := (World.cell?_of_block (hSw.block _ HBM.out)).trans h6; go_simp <;> with_reducible rfl
               simp only [Act.put, List.setIfInBounds_toArray, List.set_cons_zero, List.set_cons_succ]
               cases vc
               case false =>
                have HF : Hid (bo = false) := Lib.hid (by rw [HRX.out, GG23.out, GG24.out, GG25.out, GG26.out, GG27.out, GG28.out, GG29.out, GG30.out, GG31.out, GG32.out, GG33.out] <;> first | rfl | (simp; done))
                have HE : Hid (v1 = false) := Lib.hid (by rw [← HG2.out, HF.out]; rfl)
                have HFR : Hid (rs = false) := Lib.hid (by rw [HR.out, HE.out] <;> simp)
                refine heldCall 48 (some 64) (f := ?_) (args := ?_) rfl rfl (by kernel_rfl) (by rfl) ?_ ?_
                rotate_left 2
                ·go_simp <;> first | (constructor <;> with_reducible rfl) | with_reducible rfl
                (with_reducible refine (KC _ hHeld).mono ?_)
                rintro _ z ⟨rfl, hz⟩
                refine ⟨_, rfl, keepAnd ?_ (fun hNew => ?_)⟩
                ·exact Below.trans hHeld (hz.mono hHeld.size)
                clear hHeld
                have hHeld := hNew
                clear hNew
                simp only [Act.put, List.setIfInBounds_toArray, List.set_cons_zero, List.set_cons_succ]
                refine heldTake 49 (some 65) (v := ?_) rfl rfl (by kernel_rfl) (by kernel_rfl) (by kernel_rfl) (by rfl) hHeld (fun _ _ _ h => h) ?_ ?_
                rotate_left
                ·intro w' hSw; (try dsimp only at hSw); go_simp <;> with_reducible rfl
                simp only [Act.put, List.setIfInBounds_toArray, List.set_cons_zero, List.set_cons_succ]
                refine heldTake 50 (some 66) (v := ?_) rfl rfl (by kernel_rfl) (by kernel_rfl) (by kernel_rfl) (by rfl) hHeld (fun _ _ _ h => h) ?_ ?_
                rotate_left
                ·intro w' hSw; (try dsimp only at hSw); go_simp <;> with_reducible rfl
                simp only [Act.put, List.setIfInBounds_toArray, List.set_cons_zero, List.set_cons_succ]
                refine wpAnyH_done (by kernel_rfl) ?_ _
                refine NoPanic.normal ?_
                have HZ : Hid (Below w.heap.size w _) := Lib.hid hHeld
                go_wp2_with fail
                go_ret
                exact ⟨by rw [HFR.out] <;> rfl, HZ.out⟩
               case true =>
                have HF : Hid (bo = true) := Lib.hid (by rw [HRX.out, GG23.out, GG24.out, GG25.out, GG26.out, GG27.out, GG28.out, GG29.out, GG30.out, GG31.out, GG32.out, GG33.out] <;> first | rfl | (simp; done))
                have HN : Hid (sameL sEnt (xents.drop (k + 1)) (yents.drop (k + 1)) = v1) := Lib.hid (by rw [← HG2.out, HF.out]; simp)
                refine heldCall 48 (some 64) (f := ?_) (args := ?_) rfl rfl (by kernel_rfl) (by rfl) ?_ ?_
                rotate_left 2
                ·go_simp <;> first | (constructor <;> with_reducible rfl) | with_reducible rfl
                (with_reducible refine (KC _ hHeld).mono ?_)
                rintro _ z ⟨rfl, hz⟩
                refine ⟨_, rfl, keepAnd ?_ (fun hNew => ?_)⟩
                ·exact Below.trans hHeld (hz.mono hHeld.size)
                clear hHeld
                have hHeld := hNew
                clear hNew
                simp only [Act.put, List.setIfInBounds_toArray, List.set_cons_zero, List.set_cons_succ]
                refine heldTake 49 (some 65) (v := ?_) rfl rfl (by kernel_rfl) (by kernel_rfl) (by kernel_rfl) (by rfl) hHeld (fun _ _ _ h => h) ?_ ?_
                rotate_left
                ·intro w' hSw; (try dsimp only at hSw); go_simp <;> with_reducible rfl
                simp only [Act.put, List.setIfInBounds_toArray, List.set_cons_zero, List.set_cons_succ]
                refine heldTake 50 (some 66) (v := ?_) rfl rfl (by kernel_rfl) (by kernel_rfl) (by kernel_rfl) (by rfl) hHeld (fun _ _ _ h => h) ?_ ?_
                rotate_left
                ·intro w' hSw; (try dsimp only at hSw); go_simp <;> with_reducible rfl
                simp only [Act.put, List.setIfInBounds_toArray, List.set_cons_zero, List.set_cons_succ]
                refine wpAnyH_done (by kernel_rfl) ?_ _
                refine NoPanic.normal ?_
                have HZ : Hid (Below w.heap.size w _) := Lib.hid hHeld
                go_wp2_with fail
                go_roundw
                case rel => exact ⟨k + 1, by go_num, hlt, HN, HZ⟩
                case measure => simp [intOf]; omega
end Go.Proofs.YtbfdegkickjbpaaGreat
