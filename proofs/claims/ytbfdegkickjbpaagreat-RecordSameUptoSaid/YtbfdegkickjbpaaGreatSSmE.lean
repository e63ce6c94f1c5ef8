/-
 SmE
-/
import Derived.Test.YtbfdegkickjbpaaGreatSSmD
namespace Go.Proofs.YtbfdegkickjbpaaGreat
open Go.RowKit Go.Lib Go.IntWalk Go.Sort Go.Shelf
theorem facBelow {w w' : World} {p : RF} (h : p.is w (· < w.heap.size)) (hb : Below w.heap.size w w') : p.is w' (· < w'.heap.size) := ⟨Rd.below' h.1 hb, h.2⟩
theorem verBelow {w w' : World} {r : RV} {x : Ver} (h : VerIs w (· < w.heap.size) r x) (hb : Below w.heap.size w w') : VerIs w' (· < w'.heap.size) r x := (h.keep (Keeps.below hb)).wide (fun b (hb' : b < w.heap.size) => Nat.lt_of_lt_of_le hb' hb.size)
set_option maxRecDepth 1000000 in
set_option maxHeartbeats 8000000 in
theorem sameFor_any (x y : RFor) (w : World) (hx : x.is w (· < w.heap.size)) (hy : y.is w (· < w.heap.size)) :
  Calls Tryz.prog 229 #[.agg (RFor.enc x).toArray, .agg (RFor.enc y).toArray] w fun e w' => e = .returned (.bool (sFor x y)) ∧ Below w.heap.size w w' := by
 obtain ⟨xA, xc, xl, xt⟩ := x
 obtain ⟨yA, yc, yl, yt⟩ := y
 obtain ⟨rs, hrs⟩ : ∃ r, r = sFor ⟨xA, xc, xl, xt⟩ ⟨yA, yc, yl, yt⟩ := ⟨_, rfl⟩
 rw [← hrs]
 show Calls Tryz.prog 229 #[.agg #[.slice xA xl.length xc, .string xt], .agg #[.slice yA yl.length yc, .string yt]] w _
 have HR : Hid (rs = (eqS xt yt && sameL sInt xl yl)) := Lib.hid (by rw [hrs]; rfl)
 clear hrs
 obtain ⟨W, hW⟩ : ∃ W, W = (w.alloc (.cells #[.slice xA xl.length xc, .string xt] 278)).alloc (.cells #[.slice yA yl.length yc, .string yt] 278) := ⟨_, rfl⟩
 have hbW : Below w.heap.size w W := by rw [hW]; exact (Below.of_alloc _).alloc (by simp) _
 have hWs : w.heap.size + 1 < W.heap.size := by rw [hW]; simp
 have hT : W.heap[w.heap.size]? = some (.cells #[.slice xA xl.length xc, .string xt] 278 (0, 0)) := by
  rw [hW]
  exact ((Below.of_alloc (w := w.alloc (.cells #[.slice xA xl.length xc, .string xt] 278)) (.cells #[.slice yA yl.length yc, .string yt] 278)).block _ (by simp)).trans (heap_alloc_new _ _)
 have hU : W.heap[w.heap.size + 1]? = some (.cells #[.slice yA yl.length yc, .string yt] 278 (0, 0)) := by
  rw [hW]
  have h := heap_alloc_new (w.alloc (.cells #[.slice xA xl.length xc, .string xt] 278)) (.cells #[.slice yA yl.length yc, .string yt] 278)
  simpa using h
 have FX : Hid (∀ V, Below W.heap.size W V → V.heap[w.heap.size]? = some (.cells #[.slice xA xl.length xc, .string xt] 278 (0, 0))) := Lib.hid (fun V hV => (hV.block _ (by omega)).trans hT)
 have FY : Hid (∀ V, Below W.heap.size W V → V.heap[w.heap.size + 1]? = some (.cells #[.slice yA yl.length yc, .string yt] 278 (0, 0))) := Lib.hid (fun V hV => (hV.block _ hWs).trans hU)
 have HBW := Lib.hid hbW
 have HC0 : Hid (Below W.heap.size W W) := Lib.hid (Below.refl _ _)
 have HW := Lib.hid hW
 clear hT hU hbW hWs hW
 obtain ⟨v1, hv1⟩ : ∃ bo, bo = sameL sInt xl yl := ⟨_, rfl⟩
 have K1 := fun (V : World) (hV : Below w.heap.size w V) => eqInt_any _ _ xl yl V (RdE.below hx hV) (RdE.below hy hV)
 rw [← hv1] at K1 HR
 clear hv1
 have c0 : W.cell? ⟨w.heap.size, 0, none⟩ = some (.slice xA xl.length xc) := cell_of_row W _ 0 _ _ _ (FX.out _ HC0.out)
 have c1 : W.cell? ⟨w.heap.size, 1, none⟩ = some (.string xt) := cell_of_row W _ 1 _ _ _ (FX.out _ HC0.out)
 have d0 : W.cell? ⟨w.heap.size + 1, 0, none⟩ = some (.slice yA yl.length yc) := cell_of_row W _ 0 _ _ _ (FY.out _ HC0.out)
 have d1 : W.cell? ⟨w.heap.size + 1, 1, none⟩ = some (.string yt) := cell_of_row W _ 1 _ _ _ (FY.out _ HC0.out)
 cases ee1 : (xt.toList == yt.toList)
 case false =>
  have gg1 : eqS xt yt = false := ee1
  have ff1 : (xt.toList != yt.toList) = true := by rw [bne, ee1]; rfl
  have HF : Hid (rs = false) := Lib.hid (by rw [HR.out, gg1] <;> simp)
  go_enter Tryz.func229, Tryz.ntmps229
  go_wp2_with fail
  try rw [← HW.out]
  go_ret
  exact ⟨by rw [HF.out] <;> first | rfl | (simp; done), (HBW.out.trans (HC0.out.mono HBW.out.size))⟩
 case true =>
  have GG1 : Hid (eqS xt yt = true) := Lib.hid ee1
  have ff1 : (xt.toList != yt.toList) = false := by rw [bne, ee1]; rfl
  have KK2 := K1 W (HBW.out.trans (HC0.out.mono HBW.out.size))
  go_enter Tryz.func229, Tryz.ntmps229
  go_wp2_with fail
  try rw [← HW.out]
  (with_reducible refine KK2.mono ?_)
  rintro _ z2 ⟨rfl, hz2⟩
  clear KK2
  have HC2 : Hid (Below W.heap.size W z2) := Lib.hid (HC0.out.trans (hz2.mono HC0.out.size))
  clear hz2
  clear c0 d0 c1 d1
  have c0 : z2.cell? ⟨w.heap.size, 0, none⟩ = some (.slice xA xl.length xc) := cell_of_row z2 _ 0 _ _ _ (FX.out _ HC2.out)
  have c1 : z2.cell? ⟨w.heap.size, 1, none⟩ = some (.string xt) := cell_of_row z2 _ 1 _ _ _ (FX.out _ HC2.out)
  have d0 : z2.cell? ⟨w.heap.size + 1, 0, none⟩ = some (.slice yA yl.length yc) := cell_of_row z2 _ 0 _ _ _ (FY.out _ HC2.out)
  have d1 : z2.cell? ⟨w.heap.size + 1, 1, none⟩ = some (.string yt) := cell_of_row z2 _ 1 _ _ _ (FY.out _ HC2.out)
  cases v1
  case false =>
   have HF : Hid (rs = false) := Lib.hid (by rw [HR.out] <;> simp)
   go_wp2_with fail
   go_ret
   exact ⟨by rw [HF.out] <;> first | rfl | (simp; done), (HBW.out.trans (HC2.out.mono HBW.out.size))⟩
  case true =>
   have HF : Hid (rs = true) := Lib.hid (by rw [HR.out, GG1.out] <;> first | rfl | (simp; done))
   go_wp2_with fail
   go_ret
   exact ⟨by rw [HF.out] <;> first | rfl | (simp; done), (HBW.out.trans (HC2.out.mono HBW.out.size))⟩
def RE.sl : RE → Value
 | .mk _ _ _ _ A c args => .slice A args.length c
def RE.as : RE → List RE
 | .mk _ _ _ _ _ _ args => args
set_option maxRecDepth 1000000 in
set_option maxHeartbeats 8000000 in
theorem sameExpr0 (x y : RE) (w : World) (KA : ∀ V, Below w.heap.size w V → Calls Tryz.prog 230 #[x.sl, y.sl, .func (.func 231) #[] #[]] V fun e w' => e = .returned (.bool (sameL sX x.as y.as)) ∧ Below V.heap.size V w') :
  Calls Tryz.prog 231 #[.agg (RE.enc x).toArray, .agg (RE.enc y).toArray] w fun e w' => e = .returned (.bool (sX x y)) ∧ Below w.heap.size w w' := by
 obtain ⟨xo, xi, ⟨x1, x2, x3⟩, xn, xA, xc, xas⟩ := x
 obtain ⟨yo, yi, ⟨y1, y2, y3⟩, yn, yA, yc, yas⟩ := y
 simp only [RE.sl, RE.as] at KA
 obtain ⟨rs, hrs⟩ : ∃ r, r = sX ⟨xo, xi, ⟨x1, x2, x3⟩, xn, xA, xc, xas⟩ ⟨yo, yi, ⟨y1, y2, y3⟩, yn, yA, yc, yas⟩ := ⟨_, rfl⟩
 rw [← hrs]
 show Calls Tryz.prog 231 #[.agg #[.int .i64 xo, .int .i64 xi, .int .i64 x1, .int .i64 x2, .string x3, .string xn, .slice xA xas.length xc], .agg #[.int .i64 yo, .int .i64 yi, .int .i64 y1, .int .i64 y2, .string y3, .string yn, .slice yA yas.length yc]] w _
 have HR : Hid (rs = (decide (xo = yo) && (decide (xi = yi) && ((decide (x1 = y1) && (decide (x2 = y2) && eqS x3 y3)) && (eqS xn yn && sameL sX xas yas))))) := Lib.hid (by rw [hrs]; rw [sX_mk]; rfl)
 clear hrs
 obtain ⟨W, hW⟩ : ∃ W, W = (w.alloc (.cells #[.int .i64 xo, .int .i64 xi, .int .i64 x1, .int .i64 x2, .string x3, .string xn, .slice xA xas.length xc] 212)).alloc (.cells #[.int .i64 yo, .int .i64 yi, .int .i64 y1, .int .i64 y2, .string y3, .string yn, .slice yA yas.length yc] 212) := ⟨_, rfl⟩
 have hbW : Below w.heap.size w W := by rw [hW]; exact (Below.of_alloc _).alloc (by simp) _
 have hWs : w.heap.size + 1 < W.heap.size := by rw [hW]; simp
 have hT : W.heap[w.heap.size]? = some (.cells #[.int .i64 xo, .int .i64 xi, .int .i64 x1, .int .i64 x2, .string x3, .string xn, .slice xA xas.length xc] 212 (0, 0)) := by
  rw [hW]
  exact ((Below.of_alloc (w := w.alloc (.cells #[.int .i64 xo, .int .i64 xi, .int .i64 x1, .int .i64 x2, .string x3, .string xn, .slice xA xas.length xc] 212)) (.cells #[.int .i64 yo, .int .i64 yi, .int .i64 y1, .int .i64 y2, .string y3, .string yn, .slice yA yas.length yc] 212)).block _ (by simp)).trans (heap_alloc_new _ _)
 have hU : W.heap[w.heap.size + 1]? = some (.cells #[.int .i64 yo, .int .i64 yi, .int .i64 y1, .int .i64 y2, .string y3, .string yn, .slice yA yas.length yc] 212 (0, 0)) := by
  rw [hW]
  have h := heap_alloc_new (w.alloc (.cells #[.int .i64 xo, .int .i64 xi, .int .i64 x1, .int .i64 x2, .string x3, .string xn, .slice xA xas.length xc] 212)) (.cells #[.int .i64 yo, .int .i64 yi, .int .i64 y1, .int .i64 y2, .string y3, .string yn, .slice yA yas.length yc] 212)
  simpa using h
 have FX : Hid (∀ V, Below W.heap.size W V → V.heap[w.heap.size]? = some (.cells #[.int .i64 xo, .int .i64 xi, .int .i64 x1, .int .i64 x2, .string x3, .string xn, .slice xA xas.length xc] 212 (0, 0))) := Lib.hid (fun V hV => (hV.block _ (by omega)).trans hT)
 have FY : Hid (∀ V, Below W.heap.size W V → V.heap[w.heap.size + 1]? = some (.cells #[.int .i64 yo, .int .i64 yi, .int .i64 y1, .int .i64 y2, .string y3, .string yn, .slice yA yas.length yc] 212 (0, 0))) := Lib.hid (fun V hV => (hV.block _ hWs).trans hU)
 have HBW := Lib.hid hbW
 have HC0 : Hid (Below W.heap.size W W) := Lib.hid (Below.refl _ _)
 have HW := Lib.hid hW
 clear hT hU hbW hWs hW
 obtain ⟨v1, hv1⟩ : ∃ bo, bo = sameL sX xas yas := ⟨_, rfl⟩
 have K1 := fun (V : World) (hV : Below w.heap.size w V) => KA V hV
 rw [← hv1] at K1 HR
 clear hv1
 have c0 : W.cell? ⟨w.heap.size, 0, none⟩ = some (.int .i64 xo) := cell_of_row W _ 0 _ _ _ (FX.out _ HC0.out)
 have c1 : W.cell? ⟨w.heap.size, 1, none⟩ = some (.int .i64 xi) := cell_of_row W _ 1 _ _ _ (FX.out _ HC0.out)
 have c2 : W.cell? ⟨w.heap.size, 2, none⟩ = some (.int .i64 x1) := cell_of_row W _ 2 _ _ _ (FX.out _ HC0.out)
 have c3 : W.cell? ⟨w.heap.size, 3, none⟩ = some (.int .i64 x2) := cell_of_row W _ 3 _ _ _ (FX.out _ HC0.out)
 have c4 : W.cell? ⟨w.heap.size, 4, none⟩ = some (.string x3) := cell_of_row W _ 4 _ _ _ (FX.out _ HC0.out)
 have c5 : W.cell? ⟨w.heap.size, 5, none⟩ = some (.string xn) := cell_of_row W _ 5 _ _ _ (FX.out _ HC0.out)
 have c6 : W.cell? ⟨w.heap.size, 6, none⟩ = some (.slice xA xas.length xc) := cell_of_row W _ 6 _ _ _ (FX.out _ HC0.out)
 have d0 : W.cell? ⟨w.heap.size + 1, 0, none⟩ = some (.int .i64 yo) := cell_of_row W _ 0 _ _ _ (FY.out _ HC0.out)
 have d1 : W.cell? ⟨w.heap.size + 1, 1, none⟩ = some (.int .i64 yi) := cell_of_row W _ 1 _ _ _ (FY.out _ HC0.out)
 have d2 : W.cell? ⟨w.heap.size + 1, 2, none⟩ = some (.int .i64 y1) := cell_of_row W _ 2 _ _ _ (FY.out _ HC0.out)
 have d3 : W.cell? ⟨w.heap.size + 1, 3, none⟩ = some (.int .i64 y2) := cell_of_row W _ 3 _ _ _ (FY.out _ HC0.out)
 have d4 : W.cell? ⟨w.heap.size + 1, 4, none⟩ = some (.string y3) := cell_of_row W _ 4 _ _ _ (FY.out _ HC0.out)
 have d5 : W.cell? ⟨w.heap.size + 1, 5, none⟩ = some (.string yn) := cell_of_row W _ 5 _ _ _ (FY.out _ HC0.out)
 have d6 : W.cell? ⟨w.heap.size + 1, 6, none⟩ = some (.slice yA yas.length yc) := cell_of_row W _ 6 _ _ _ (FY.out _ HC0.out)
 by_cases tt3 : xo = yo
 case neg =>
  have gg3 : decide (xo = yo) = false := decide_eq_false tt3
  have ee3 : (xo == yo) = false := by simpa using tt3
  have ff3 : (xo != yo) = true := by simpa using tt3
  have HF : Hid (rs = false) := Lib.hid (by rw [HR.out, gg3] <;> simp)
  go_enter Tryz.func231, Tryz.ntmps231
  go_wp2_with fail
  try rw [← HW.out]
  go_ret
  exact ⟨by rw [HF.out] <;> first | rfl | (simp; done), (HBW.out.trans (HC0.out.mono HBW.out.size))⟩
 case pos =>
  have GG3 : Hid (decide (xo = yo) = true) := Lib.hid (decide_eq_true tt3)
  have ee3 : (xo == yo) = true := by simpa using tt3
  have ff3 : (xo != yo) = false := by simpa using tt3
  clear tt3
  by_cases tt4 : xi = yi
  case neg =>
   have gg4 : decide (xi = yi) = false := decide_eq_false tt4
   have ee4 : (xi == yi) = false := by simpa using tt4
   have ff4 : (xi != yi) = true := by simpa using tt4
   have HF : Hid (rs = false) := Lib.hid (by rw [HR.out, gg4] <;> simp)
   go_enter Tryz.func231, Tryz.ntmps231
   go_wp2_with fail
   try rw [← HW.out]
   go_ret
   exact ⟨by rw [HF.out] <;> first | rfl | (simp; done), (HBW.out.trans (HC0.out.mono HBW.out.size))⟩
  case pos =>
   have GG4 : Hid (decide (xi = yi) = true) := Lib.hid (decide_eq_true tt4)
   have ee4 : (xi == yi) = true := by simpa using tt4
   have ff4 : (xi != yi) = false := by simpa using tt4
   clear tt4
   by_cases tt5 : x1 = y1
   case neg =>
    have gg5 : decide (x1 = y1) = false := decide_eq_false tt5
    have ee5 : (x1 == y1) = false := by simpa using tt5
    have ff5 : (x1 != y1) = true := by simpa using tt5
    have HF : Hid (rs = false) := Lib.hid (by rw [HR.out, gg5] <;> simp)
    go_enter Tryz.func231, Tryz.ntmps231
    go_wp2_with fail
    try rw [← HW.out]
    go_ret
    exact ⟨by rw [HF.out] <;> first | rfl | (simp; done), (HBW.out.trans (HC0.out.mono HBW.out.size))⟩
   case pos =>
    have GG5 : Hid (decide (x1 = y1) = true) := Lib.hid (decide_eq_true tt5)
    have ee5 : (x1 == y1) = true := by simpa using tt5
    have ff5 : (x1 != y1) = false := by simpa using tt5
    clear tt5
    by_cases tt6 : x2 = y2
    case neg =>
     have gg6 : decide (x2 = y2) = false := decide_eq_false tt6
     have ee6 : (x2 == y2) = false := by simpa using tt6
     have ff6 : (x2 != y2) = true := by simpa using tt6
     have HF : Hid (rs = false) := Lib.hid (by rw [HR.out, gg6] <;> simp)
     go_enter Tryz.func231, Tryz.ntmps231
     go_wp2_with fail
     try rw [← HW.out]
     go_ret
     exact ⟨by rw [HF.out] <;> first | rfl | (simp; done), (HBW.out.trans (HC0.out.mono HBW.out.size))⟩
    case pos =>
     have GG6 : Hid (decide (x2 = y2) = true) := Lib.hid (decide_eq_true tt6)
     have ee6 : (x2 == y2) = true := by simpa using tt6
     have ff6 : (x2 != y2) = false := by simpa using tt6
     clear tt6
     cases ee7 : (x3.toList == y3.toList)
     case false =>
      have gg7 : eqS x3 y3 = false := ee7
      have ff7 : (x3.toList != y3.toList) = true := by rw [bne, ee7]; rfl
      have HF : Hid (rs = false) := Lib.hid (by rw [HR.out, gg7] <;> simp)
      go_enter Tryz.func231, Tryz.ntmps231
      go_wp2_with fail
      try rw [← HW.out]
      go_ret
      exact ⟨by rw [HF.out] <;> first | rfl | (simp; done), (HBW.out.trans (HC0.out.mono HBW.out.size))⟩
     case true =>
      have GG7 : Hid (eqS x3 y3 = true) := Lib.hid ee7
      have ff7 : (x3.toList != y3.toList) = false := by rw [bne, ee7]; rfl
      cases ee8 : (xn.toList == yn.toList)
      case false =>
       have gg8 : eqS xn yn = false := ee8
       have ff8 : (xn.toList != yn.toList) = true := by rw [bne, ee8]; rfl
       have HF : Hid (rs = false) := Lib.hid (by rw [HR.out, gg8] <;> simp)
       go_enter Tryz.func231, Tryz.ntmps231
       go_wp2_with fail
       try rw [← HW.out]
       go_ret
       exact ⟨by rw [HF.out] <;> first | rfl | (simp; done), (HBW.out.trans (HC0.out.mono HBW.out.size))⟩
      case true =>
       have GG8 : Hid (eqS xn yn = true) := Lib.hid ee8
       have ff8 : (xn.toList != yn.toList) = false := by rw [bne, ee8]; rfl
       have KK9 := K1 W (HBW.out.trans (HC0.out.mono HBW.out.size))
       go_enter Tryz.func231, Tryz.ntmps231
       go_wp2_with fail
       try rw [← HW.out]
       (with_reducible refine KK9.mono ?_)
       rintro _ z9 ⟨rfl, hz9⟩
       clear KK9
       have HC9 : Hid (Below W.heap.size W z9) := Lib.hid (HC0.out.trans (hz9.mono HC0.out.size))
       clear hz9
       clear c0 d0 c1 d1 c2 d2 c3 d3 c4 d4 c5 d5 c6 d6
       have c0 : z9.cell? ⟨w.heap.size, 0, none⟩ = some (.int .i64 xo) := cell_of_row z9 _ 0 _ _ _ (FX.out _ HC9.out)
       have c1 : z9.cell? ⟨w.heap.size, 1, none⟩ = some (.int .i64 xi) := cell_of_row z9 _ 1 _ _ _ (FX.out _ HC9.out)
       have c2 : z9.cell? ⟨w.heap.size, 2, none⟩ = some (.int .i64 x1) := cell_of_row z9 _ 2 _ _ _ (FX.out _ HC9.out)
       have c3 : z9.cell? ⟨w.heap.size, 3, none⟩ = some (.int .i64 x2) := cell_of_row z9 _ 3 _ _ _ (FX.out _ HC9.out)
       have c4 : z9.cell? ⟨w.heap.size, 4, none⟩ = some (.string x3) := cell_of_row z9 _ 4 _ _ _ (FX.out _ HC9.out)
       have c5 : z9.cell? ⟨w.heap.size, 5, none⟩ = some (.string xn) := cell_of_row z9 _ 5 _ _ _ (FX.out _ HC9.out)
       have c6 : z9.cell? ⟨w.heap.size, 6, none⟩ = some (.slice xA xas.length xc) := cell_of_row z9 _ 6 _ _ _ (FX.out _ HC9.out)
       have d0 : z9.cell? ⟨w.heap.size + 1, 0, none⟩ = some (.int .i64 yo) := cell_of_row z9 _ 0 _ _ _ (FY.out _ HC9.out)
       have d1 : z9.cell? ⟨w.heap.size + 1, 1, none⟩ = some (.int .i64 yi) := cell_of_row z9 _ 1 _ _ _ (FY.out _ HC9.out)
       have d2 : z9.cell? ⟨w.heap.size + 1, 2, none⟩ = some (.int .i64 y1) := cell_of_row z9 _ 2 _ _ _ (FY.out _ HC9.out)
       have d3 : z9.cell? ⟨w.heap.size + 1, 3, none⟩ = some (.int .i64 y2) := cell_of_row z9 _ 3 _ _ _ (FY.out _ HC9.out)
       have d4 : z9.cell? ⟨w.heap.size + 1, 4, none⟩ = some (.string y3) := cell_of_row z9 _ 4 _ _ _ (FY.out _ HC9.out)
       have d5 : z9.cell? ⟨w.heap.size + 1, 5, none⟩ = some (.string yn) := cell_of_row z9 _ 5 _ _ _ (FY.out _ HC9.out)
       have d6 : z9.cell? ⟨w.heap.size + 1, 6, none⟩ = some (.slice yA yas.length yc) := cell_of_row z9 _ 6 _ _ _ (FY.out _ HC9.out)
       cases v1
       case false =>
        have HF : Hid (rs = false) := Lib.hid (by rw [HR.out] <;> simp)
        go_wp2_with fail
        go_ret
        exact ⟨by rw [HF.out] <;> first | rfl | (simp; done), (HBW.out.trans (HC9.out.mono HBW.out.size))⟩
       case true =>
        have HF : Hid (rs = true) := Lib.hid (by rw [HR.out, GG3.out, GG4.out, GG5.out, GG6.out, GG7.out, GG8.out] <;> first | rfl | (simp; done))
        go_wp2_with fail
        go_ret
        exact ⟨by rw [HF.out] <;> first | rfl | (simp; done), (HBW.out.trans (HC9.out.mono HBW.out.size))⟩
theorem exAll.blw {w w' : World} {e : RE} (h : exAll w (· < w.heap.size) e) (hb : Below w.heap.size w w') : exAll w' (· < w'.heap.size) e := fun d => exIs_below hb d e (h d)
theorem exAll.parts {w : World} {F : Nat → Prop} {e : RE} (h : exAll w F e) : RdE 7 RE.enc w F e.sl e.as ∧ ∀ a ∈ e.as, exAll w F a := by
 obtain ⟨op, it, v, nm, A, c, args⟩ := e
 exact ⟨(h 1).1, fun a ha d => (h (d + 1)).2.2.2 a ha⟩
theorem nodesL_mem {a : RE} {l : List RE} (h : a ∈ l) : a.nodes ≤ nodesL l := by
 induction l with
 | nil => cases h
 | cons x r ih =>
  simp only [nodesL]
  rcases List.mem_cons.1 h with rfl | h
  ·omega
  ·have := ih h; omega
theorem RE.nodes_arg {e a : RE} (h : a ∈ e.as) : a.nodes < e.nodes := by
 obtain ⟨op, it, v, nm, A, c, args⟩ := e
 show a.nodes < nodesL args + 1
 have h1 := nodesL_mem (show a ∈ args from h)
 omega
theorem sameExpr_any : ∀ (n : Nat) (x y : RE) (w : World), x.nodes ≤ n → exAll w (· < w.heap.size) x → exAll w (· < w.heap.size) y →
  Calls Tryz.prog 231 #[.agg x.enc.toArray, .agg y.enc.toArray] w fun e w' => e = .returned (.bool (sX x y)) ∧ Below w.heap.size w w' := by
 intro n
 induction n with
 | zero =>
  intro x y w h
  have := x.nodes_pos
  omega
 | succ n ih =>
  intro x y w h hx hy
  refine sameExpr0 x y w (fun V hV => ?_)
  obtain ⟨x1, x2⟩ := (hx.blw hV).parts
  obtain ⟨y1, y2⟩ := (hy.blw hV).parts
  refine eqfExp_any _ _ x.as y.as V x1 y1 (fun a ha b hb U hU => ih a b U (by have := RE.nodes_arg ha; omega) ((x2 a ha).blw hU) ((y2 b hb).blw hU))
set_option maxRecDepth 1000000 in
set_option maxHeartbeats 8000000 in
theorem sameTable_any (x y : RTab) (w : World) (hx : x.is w (· < w.heap.size)) (hy : y.is w (· < w.heap.size)) (kx : ∀ e ∈ x.chks, exAll w (· < w.heap.size) e) (ky : ∀ e ∈ y.chks, exAll w (· < w.heap.size) e) :
  Calls Tryz.prog 181 #[.agg (RTab.enc x).toArray, .agg (RTab.enc y).toArray] w fun e w' => e = .returned (.bool (sTab x y)) ∧ Below w.heap.size w w' := by
 obtain ⟨xnm, xcolA, xcolC, xcols, xkeyA, xkeyC, xkey, xforA, xforC, xfors, xchkA, xchkC, xchks⟩ := x
 obtain ⟨ynm, ycolA, ycolC, ycols, ykeyA, ykeyC, ykey, yforA, yforC, yfors, ychkA, ychkC, ychks⟩ := y
 obtain ⟨rs, hrs⟩ : ∃ r, r = sTab ⟨xnm, xcolA, xcolC, xcols, xkeyA, xkeyC, xkey, xforA, xforC, xfors, xchkA, xchkC, xchks⟩ ⟨ynm, ycolA, ycolC, ycols, ykeyA, ykeyC, ykey, yforA, yforC, yfors, ychkA, ychkC, ychks⟩ := ⟨_, rfl⟩
 rw [← hrs]
 show Calls Tryz.prog 181 #[.agg #[.string xnm, .slice xcolA xcols.length xcolC, .slice xkeyA xkey.length xkeyC, .slice xforA xfors.length xforC, .slice xchkA xchks.length xchkC], .agg #[.string ynm, .slice ycolA ycols.length ycolC, .slice ykeyA ykey.length ykeyC, .slice yforA yfors.length yforC, .slice ychkA ychks.length ychkC]] w _
 have HR : Hid (rs = (eqS xnm ynm && (sameL sCol xcols ycols && (sameL sInt xkey ykey && (sameL sFor xfors yfors && sameL sX xchks ychks))))) := Lib.hid (by rw [hrs]; rfl)
 clear hrs
 obtain ⟨W, hW⟩ : ∃ W, W = (w.alloc (.cells #[.string xnm, .slice xcolA xcols.length xcolC, .slice xkeyA xkey.length xkeyC, .slice xforA xfors.length xforC, .slice xchkA xchks.length xchkC] 75)).alloc (.cells #[.string ynm, .slice ycolA ycols.length ycolC, .slice ykeyA ykey.length ykeyC, .slice yforA yfors.length yforC, .slice ychkA ychks.length ychkC] 75) := ⟨_, rfl⟩
 have hbW : Below w.heap.size w W := by rw [hW]; exact (Below.of_alloc _).alloc (by simp) _
 have hWs : w.heap.size + 1 < W.heap.size := by rw [hW]; simp
 have hT : W.heap[w.heap.size]? = some (.cells #[.string xnm, .slice xcolA xcols.length xcolC, .slice xkeyA xkey.length xkeyC, .slice xforA xfors.length xforC, .slice xchkA xchks.length xchkC] 75 (0, 0)) := by
  rw [hW]
  exact ((Below.of_alloc (w := w.alloc (.cells #[.string xnm, .slice xcolA xcols.length xcolC, .slice xkeyA xkey.length xkeyC, .slice xforA xfors.length xforC, .slice xchkA xchks.length xchkC] 75)) (.cells #[.string ynm, .slice ycolA ycols.length ycolC, .slice ykeyA ykey.length ykeyC, .slice yforA yfors.length yforC, .slice ychkA ychks.length ychkC] 75)).block _ (by simp)).trans (heap_alloc_new _ _)
 have hU : W.heap[w.heap.size + 1]? = some (.cells #[.string ynm, .slice ycolA ycols.length ycolC, .slice ykeyA ykey.length ykeyC, .slice yforA yfors.length yforC, .slice ychkA ychks.length ychkC] 75 (0, 0)) := by
  rw [hW]
  have h := heap_alloc_new (w.alloc (.cells #[.string xnm, .slice xcolA xcols.length xcolC, .slice xkeyA xkey.length xkeyC, .slice xforA xfors.length xforC, .slice xchkA xchks.length xchkC] 75)) (.cells #[.string ynm, .slice ycolA ycols.length ycolC, .slice ykeyA ykey.length ykeyC, .slice yforA yfors.length yforC, .slice ychkA ychks.length ychkC] 75)
  simpa using h
 have FX : Hid (∀ V, Below W.heap.size W V → V.heap[w.heap.size]? = some (.cells #[.string xnm, .slice xcolA xcols.length xcolC, .slice xkeyA xkey.length xkeyC, .slice xforA xfors.length xforC, .slice xchkA xchks.length xchkC] 75 (0, 0))) := Lib.hid (fun V hV => (hV.block _ (by omega)).trans hT)
 have FY : Hid (∀ V, Below W.heap.size W V → V.heap[w.heap.size + 1]? = some (.cells #[.string ynm, .slice ycolA ycols.length ycolC, .slice ykeyA ykey.length ykeyC, .slice yforA yfors.length yforC, .slice ychkA ychks.length ychkC] 75 (0, 0))) := Lib.hid (fun V hV => (hV.block _ hWs).trans hU)
 have HBW := Lib.hid hbW
 have HC0 : Hid (Below W.heap.size W W) := Lib.hid (Below.refl _ _)
 have HW := Lib.hid hW
 clear hT hU hbW hWs hW
 obtain ⟨v1, hv1⟩ : ∃ bo, bo = sameL sCol xcols ycols := ⟨_, rfl⟩
 have K1 := fun (V : World) (hV : Below w.heap.size w V) => eqCol_any _ _ xcols ycols V (hx.below hV).cols (hy.below hV).cols
 rw [← hv1] at K1 HR
 clear hv1
 obtain ⟨v2, hv2⟩ : ∃ bo, bo = sameL sInt xkey ykey := ⟨_, rfl⟩
 have K2 := fun (V : World) (hV : Below w.heap.size w V) => eqInt_any _ _ xkey ykey V (hx.below hV).key (hy.below hV).key
 rw [← hv2] at K2 HR
 clear hv2
 obtain ⟨v3, hv3⟩ : ∃ bo, bo = sameL sFor xfors yfors := ⟨_, rfl⟩
 have K3 := fun (V : World) (hV : Below w.heap.size w V) => eqfFor_any _ _ xfors yfors V (hx.below hV).fors (hy.below hV).fors (fun a ha b hb U hU => sameFor_any a b U (RdE.below ((hx.below hV).forI a ha) hU) (RdE.below ((hy.below hV).forI b hb) hU))
 rw [← hv3] at K3 HR
 clear hv3
 obtain ⟨v4, hv4⟩ : ∃ bo, bo = sameL sX xchks ychks := ⟨_, rfl⟩
 have K4 := fun (V : World) (hV : Below w.heap.size w V) => eqfExp_any _ _ xchks ychks V (hx.below hV).chks (hy.below hV).chks (fun a ha b hb U hU => sameExpr_any a.nodes a b U (Nat.le_refl _) (((kx a ha).blw hV).blw hU) (((ky b hb).blw hV).blw hU))
 rw [← hv4] at K4 HR
 clear hv4
 have c0 : W.cell? ⟨w.heap.size, 0, none⟩ = some (.string xnm) := cell_of_row W _ 0 _ _ _ (FX.out _ HC0.out)
 have c1 : W.cell? ⟨w.heap.size, 1, none⟩ = some (.slice xcolA xcols.length xcolC) := cell_of_row W _ 1 _ _ _ (FX.out _ HC0.out)
 have c2 : W.cell? ⟨w.heap.size, 2, none⟩ = some (.slice xkeyA xkey.length xkeyC) := cell_of_row W _ 2 _ _ _ (FX.out _ HC0.out)
 have c3 : W.cell? ⟨w.heap.size, 3, none⟩ = some (.slice xforA xfors.length xforC) := cell_of_row W _ 3 _ _ _ (FX.out _ HC0.out)
 have c4 : W.cell? ⟨w.heap.size, 4, none⟩ = some (.slice xchkA xchks.length xchkC) := cell_of_row W _ 4 _ _ _ (FX.out _ HC0.out)
 have d0 : W.cell? ⟨w.heap.size + 1, 0, none⟩ = some (.string ynm) := cell_of_row W _ 0 _ _ _ (FY.out _ HC0.out)
 have d1 : W.cell? ⟨w.heap.size + 1, 1, none⟩ = some (.slice ycolA ycols.length ycolC) := cell_of_row W _ 1 _ _ _ (FY.out _ HC0.out)
 have d2 : W.cell? ⟨w.heap.size + 1, 2, none⟩ = some (.slice ykeyA ykey.length ykeyC) := cell_of_row W _ 2 _ _ _ (FY.out _ HC0.out)
 have d3 : W.cell? ⟨w.heap.size + 1, 3, none⟩ = some (.slice yforA yfors.length yforC) := cell_of_row W _ 3 _ _ _ (FY.out _ HC0.out)
 have d4 : W.cell? ⟨w.heap.size + 1, 4, none⟩ = some (.slice ychkA ychks.length ychkC) := cell_of_row W _ 4 _ _ _ (FY.out _ HC0.out)
 cases ee10 : (xnm.toList == ynm.toList)
 case false =>
  have gg10 : eqS xnm ynm = false := ee10
  have ff10 : (xnm.toList != ynm.toList) = true := by rw [bne, ee10]; rfl
  have HF : Hid (rs = false) := Lib.hid (by rw [HR.out, gg10] <;> simp)
  go_enter Tryz.func181, Tryz.ntmps181
  go_wp2_with fail
  try rw [← HW.out]
  go_ret
  exact ⟨by rw [HF.out] <;> first | rfl | (simp; done), (HBW.out.trans (HC0.out.mono HBW.out.size))⟩
 case true =>
  have GG10 : Hid (eqS xnm ynm = true) := Lib.hid ee10
  have ff10 : (xnm.toList != ynm.toList) = false := by rw [bne, ee10]; rfl
  have KK11 := K1 W (HBW.out.trans (HC0.out.mono HBW.out.size))
  go_enter Tryz.func181, Tryz.ntmps181
  go_wp2_with fail
  try rw [← HW.out]
  (with_reducible refine KK11.mono ?_)
  rintro _ z11 ⟨rfl, hz11⟩
  clear KK11
  have HC11 : Hid (Below W.heap.size W z11) := Lib.hid (HC0.out.trans (hz11.mono HC0.out.size))
  clear hz11
  clear c0 d0 c1 d1 c2 d2 c3 d3 c4 d4
  have c0 : z11.cell? ⟨w.heap.size, 0, none⟩ = some (.string xnm) := cell_of_row z11 _ 0 _ _ _ (FX.out _ HC11.out)
  have c1 : z11.cell? ⟨w.heap.size, 1, none⟩ = some (.slice xcolA xcols.length xcolC) := cell_of_row z11 _ 1 _ _ _ (FX.out _ HC11.out)
  have c2 : z11.cell? ⟨w.heap.size, 2, none⟩ = some (.slice xkeyA xkey.length xkeyC) := cell_of_row z11 _ 2 _ _ _ (FX.out _ HC11.out)
  have c3 : z11.cell? ⟨w.heap.size, 3, none⟩ = some (.slice xforA xfors.length xforC) := cell_of_row z11 _ 3 _ _ _ (FX.out _ HC11.out)
  have c4 : z11.cell? ⟨w.heap.size, 4, none⟩ = some (.slice xchkA xchks.length xchkC) := cell_of_row z11 _ 4 _ _ _ (FX.out _ HC11.out)
  have d0 : z11.cell? ⟨w.heap.size + 1, 0, none⟩ = some (.string ynm) := cell_of_row z11 _ 0 _ _ _ (FY.out _ HC11.out)
  have d1 : z11.cell? ⟨w.heap.size + 1, 1, none⟩ = some (.slice ycolA ycols.length ycolC) := cell_of_row z11 _ 1 _ _ _ (FY.out _ HC11.out)
  have d2 : z11.cell? ⟨w.heap.size + 1, 2, none⟩ = some (.slice ykeyA ykey.length ykeyC) := cell_of_row z11 _ 2 _ _ _ (FY.out _ HC11.out)
  have d3 : z11.cell? ⟨w.heap.size + 1, 3, none⟩ = some (.slice yforA yfors.length yforC) := cell_of_row z11 _ 3 _ _ _ (FY.out _ HC11.out)
  have d4 : z11.cell? ⟨w.heap.size + 1, 4, none⟩ = some (.slice ychkA ychks.length ychkC) := cell_of_row z11 _ 4 _ _ _ (FY.out _ HC11.out)
  cases v1
  case false =>
   have HF : Hid (rs = false) := Lib.hid (by rw [HR.out] <;> simp)
   go_wp2_with fail
   go_ret
   exact ⟨by rw [HF.out] <;> first | rfl | (simp; done), (HBW.out.trans (HC11.out.mono HBW.out.size))⟩
  case true =>
   have KK12 := K2 z11 (HBW.out.trans (HC11.out.mono HBW.out.size))
   go_wp2_with fail
   (with_reducible refine KK12.mono ?_)
   rintro _ z12 ⟨rfl, hz12⟩
   clear KK12
   have HC12 : Hid (Below W.heap.size W z12) := Lib.hid (HC11.out.trans (hz12.mono HC11.out.size))
   clear hz12
   clear c0 d0 c1 d1 c2 d2 c3 d3 c4 d4
   have c0 : z12.cell? ⟨w.heap.size, 0, none⟩ = some (.string xnm) := cell_of_row z12 _ 0 _ _ _ (FX.out _ HC12.out)
   have c1 : z12.cell? ⟨w.heap.size, 1, none⟩ = some (.slice xcolA xcols.length xcolC) := cell_of_row z12 _ 1 _ _ _ (FX.out _ HC12.out)
   have c2 : z12.cell? ⟨w.heap.size, 2, none⟩ = some (.slice xkeyA xkey.length xkeyC) := cell_of_row z12 _ 2 _ _ _ (FX.out _ HC12.out)
   have c3 : z12.cell? ⟨w.heap.size, 3, none⟩ = some (.slice xforA xfors.length xforC) := cell_of_row z12 _ 3 _ _ _ (FX.out _ HC12.out)
   have c4 : z12.cell? ⟨w.heap.size, 4, none⟩ = some (.slice xchkA xchks.length xchkC) := cell_of_row z12 _ 4 _ _ _ (FX.out _ HC12.out)
   have d0 : z12.cell? ⟨w.heap.size + 1, 0, none⟩ = some (.string ynm) := cell_of_row z12 _ 0 _ _ _ (FY.out _ HC12.out)
   have d1 : z12.cell? ⟨w.heap.size + 1, 1, none⟩ = some (.slice ycolA ycols.length ycolC) := cell_of_row z12 _ 1 _ _ _ (FY.out _ HC12.out)
   have d2 : z12.cell? ⟨w.heap.size + 1, 2, none⟩ = some (.slice ykeyA ykey.length ykeyC) := cell_of_row z12 _ 2 _ _ _ (FY.out _ HC12.out)
   have d3 : z12.cell? ⟨w.heap.size + 1, 3, none⟩ = some (.slice yforA yfors.length yforC) := cell_of_row z12 _ 3 _ _ _ (FY.out _ HC12.out)
   have d4 : z12.cell? ⟨w.heap.size + 1, 4, none⟩ = some (.slice ychkA ychks.length ychkC) := cell_of_row z12 _ 4 _ _ _ (FY.out _ HC12.out)
   cases v2
   case false =>
    have HF : Hid (rs = false) := Lib.hid (by rw [HR.out] <;> simp)
    go_wp2_with fail
    go_ret
    exact ⟨by rw [HF.out] <;> first | rfl | (simp; done), (HBW.out.trans (HC12.out.mono HBW.out.size))⟩
   case true =>
    have KK13 := K3 z12 (HBW.out.trans (HC12.out.mono HBW.out.size))
    go_wp2_with fail
    (with_reducible refine KK13.mono ?_)
    rintro _ z13 ⟨rfl, hz13⟩
    clear KK13
    have HC13 : Hid (Below W.heap.size W z13) := Lib.hid (HC12.out.trans (hz13.mono HC12.out.size))
    clear hz13
    clear c0 d0 c1 d1 c2 d2 c3 d3 c4 d4
    have c0 : z13.cell? ⟨w.heap.size, 0, none⟩ = some (.string xnm) := cell_of_row z13 _ 0 _ _ _ (FX.out _ HC13.out)
    have c1 : z13.cell? ⟨w.heap.size, 1, none⟩ = some (.slice xcolA xcols.length xcolC) := cell_of_row z13 _ 1 _ _ _ (FX.out _ HC13.out)
    have c2 : z13.cell? ⟨w.heap.size, 2, none⟩ = some (.slice xkeyA xkey.length xkeyC) := cell_of_row z13 _ 2 _ _ _ (FX.out _ HC13.out)
    have c3 : z13.cell? ⟨w.heap.size, 3, none⟩ = some (.slice xforA xfors.length xforC) := cell_of_row z13 _ 3 _ _ _ (FX.out _ HC13.out)
    have c4 : z13.cell? ⟨w.heap.size, 4, none⟩ = some (.slice xchkA xchks.length xchkC) := cell_of_row z13 _ 4 _ _ _ (FX.out _ HC13.out)
    have d0 : z13.cell? ⟨w.heap.size + 1, 0, none⟩ = some (.string ynm) := cell_of_row z13 _ 0 _ _ _ (FY.out _ HC13.out)
    have d1 : z13.cell? ⟨w.heap.size + 1, 1, none⟩ = some (.slice ycolA ycols.length ycolC) := cell_of_row z13 _ 1 _ _ _ (FY.out _ HC13.out)
    have d2 : z13.cell? ⟨w.heap.size + 1, 2, none⟩ = some (.slice ykeyA ykey.length ykeyC) := cell_of_row z13 _ 2 _ _ _ (FY.out _ HC13.out)
    have d3 : z13.cell? ⟨w.heap.size + 1, 3, none⟩ = some (.slice yforA yfors.length yforC) := cell_of_row z13 _ 3 _ _ _ (FY.out _ HC13.out)
    have d4 : z13.cell? ⟨w.heap.size + 1, 4, none⟩ = some (.slice ychkA ychks.length ychkC) := cell_of_row z13 _ 4 _ _ _ (FY.out _ HC13.out)
    cases v3
    case false =>
     have HF : Hid (rs = false) := Lib.hid (by rw [HR.out] <;> simp)
     go_wp2_with fail
     go_ret
     exact ⟨by rw [HF.out] <;> first | rfl | (simp; done), (HBW.out.trans (HC13.out.mono HBW.out.size))⟩
    case true =>
     have KK14 := K4 z13 (HBW.out.trans (HC13.out.mono HBW.out.size))
     go_wp2_with fail
     (with_reducible refine KK14.mono ?_)
     rintro _ z14 ⟨rfl, hz14⟩
     clear KK14
     have HC14 : Hid (Below W.heap.size W z14) := Lib.hid (HC13.out.trans (hz14.mono HC13.out.size))
     clear hz14
     clear c0 d0 c1 d1 c2 d2 c3 d3 c4 d4
     have c0 : z14.cell? ⟨w.heap.size, 0, none⟩ = some (.string xnm) := cell_of_row z14 _ 0 _ _ _ (FX.out _ HC14.out)
     have c1 : z14.cell? ⟨w.heap.size, 1, none⟩ = some (.slice xcolA xcols.length xcolC) := cell_of_row z14 _ 1 _ _ _ (FX.out _ HC14.out)
     have c2 : z14.cell? ⟨w.heap.size, 2, none⟩ = some (.slice xkeyA xkey.length xkeyC) := cell_of_row z14 _ 2 _ _ _ (FX.out _ HC14.out)
     have c3 : z14.cell? ⟨w.heap.size, 3, none⟩ = some (.slice xforA xfors.length xforC) := cell_of_row z14 _ 3 _ _ _ (FX.out _ HC14.out)
     have c4 : z14.cell? ⟨w.heap.size, 4, none⟩ = some (.slice xchkA xchks.length xchkC) := cell_of_row z14 _ 4 _ _ _ (FX.out _ HC14.out)
     have d0 : z14.cell? ⟨w.heap.size + 1, 0, none⟩ = some (.string ynm) := cell_of_row z14 _ 0 _ _ _ (FY.out _ HC14.out)
     have d1 : z14.cell? ⟨w.heap.size + 1, 1, none⟩ = some (.slice ycolA ycols.length ycolC) := cell_of_row z14 _ 1 _ _ _ (FY.out _ HC14.out)
     have d2 : z14.cell? ⟨w.heap.size + 1, 2, none⟩ = some (.slice ykeyA ykey.length ykeyC) := cell_of_row z14 _ 2 _ _ _ (FY.out _ HC14.out)
     have d3 : z14.cell? ⟨w.heap.size + 1, 3, none⟩ = some (.slice yforA yfors.length yforC) := cell_of_row z14 _ 3 _ _ _ (FY.out _ HC14.out)
     have d4 : z14.cell? ⟨w.heap.size + 1, 4, none⟩ = some (.slice ychkA ychks.length ychkC) := cell_of_row z14 _ 4 _ _ _ (FY.out _ HC14.out)
     cases v4
     case false =>
      have HF : Hid (rs = false) := Lib.hid (by rw [HR.out] <;> simp)
      go_wp2_with fail
      go_ret
      exact ⟨by rw [HF.out] <;> first | rfl | (simp; done), (HBW.out.trans (HC14.out.mono HBW.out.size))⟩
     case true =>
      have HF : Hid (rs = true) := Lib.hid (by rw [HR.out, GG10.out] <;> first | rfl | (simp; done))
      go_wp2_with fail
      go_ret
      exact ⟨by rw [HF.out] <;> first | rfl | (simp; done), (HBW.out.trans (HC14.out.mono HBW.out.size))⟩
set_option maxRecDepth 1000000 in
set_option maxHeartbeats 8000000 in
theorem sameEntry_any (x y : REn) (w : World) (hx : x.is w (· < w.heap.size)) (hy : y.is w (· < w.heap.size)) (kx : ∀ e ∈ x.create.chks, exAll w (· < w.heap.size) e) (ky : ∀ e ∈ y.create.chks, exAll w (· < w.heap.size) e) :
  Calls Tryz.prog 88 #[.agg (REn.enc x).toArray, .agg (REn.enc y).toArray] w fun e w' => e = .returned (.bool (sEnt x y)) ∧ Below w.heap.size w w' := by
 obtain ⟨xtm, xtb, ⟨xnm, xcolA, xcolC, xcols, xkeyA, xkeyC, xkey, xforA, xforC, xfors, xchkA, xchkC, xchks⟩, ⟨x1, x2, x3, x4, x5, x6, ⟨x7, x8, x9⟩⟩⟩ := x
 obtain ⟨ytm, ytb, ⟨ynm, ycolA, ycolC, ycols, ykeyA, ykeyC, ykey, yforA, yforC, yfors, ychkA, ychkC, ychks⟩, ⟨y1, y2, y3, y4, y5, y6, ⟨y7, y8, y9⟩⟩⟩ := y
 obtain ⟨rs, hrs⟩ : ∃ r, r = sEnt ⟨xtm, xtb, ⟨xnm, xcolA, xcolC, xcols, xkeyA, xkeyC, xkey, xforA, xforC, xfors, xchkA, xchkC, xchks⟩, ⟨x1, x2, x3, x4, x5, x6, ⟨x7, x8, x9⟩⟩⟩ ⟨ytm, ytb, ⟨ynm, ycolA, ycolC, ycols, ykeyA, ykeyC, ykey, yforA, yforC, yfors, ychkA, ychkC, ychks⟩, ⟨y1, y2, y3, y4, y5, y6, ⟨y7, y8, y9⟩⟩⟩ := ⟨_, rfl⟩
 rw [← hrs]
 show Calls Tryz.prog 88 #[.agg #[.int .i64 xtm, .string xtb, .string xnm, .slice xcolA xcols.length xcolC, .slice xkeyA xkey.length xkeyC, .slice xforA xfors.length xforC, .slice xchkA xchks.length xchkC, .int .i64 x1, .string x2, .string x3, .string x4, .int .i64 x5, .bool x6, .int .i64 x7, .int .i64 x8, .string x9], .agg #[.int .i64 ytm, .string ytb, .string ynm, .slice ycolA ycols.length ycolC, .slice ykeyA ykey.length ykeyC, .slice yforA yfors.length yforC, .slice ychkA ychks.length ychkC, .int .i64 y1, .string y2, .string y3, .string y4, .int .i64 y5, .bool y6, .int .i64 y7, .int .i64 y8, .string y9]] w _
 have HR : Hid (rs = (decide (xtm = ytm) && (eqS xtb ytb && ((decide (x1 = y1) && (eqS x2 y2 && (eqS x3 y3 && (eqS x4 y4 && (decide (x5 = y5) && ((x6 == y6) && (decide (x7 = y7) && (decide (x8 = y8) && eqS x9 y9)))))))) && sTab ⟨xnm, xcolA, xcolC, xcols, xkeyA, xkeyC, xkey, xforA, xforC, xfors, xchkA, xchkC, xchks⟩ ⟨ynm, ycolA, ycolC, ycols, ykeyA, ykeyC, ykey, yforA, yforC, yfors, ychkA, ychkC, ychks⟩)))) := Lib.hid (by rw [hrs]; rfl)
 clear hrs
 obtain ⟨W, hW⟩ : ∃ W, W = (w.alloc (.cells #[.int .i64 xtm, .string xtb, .string xnm, .slice xcolA xcols.length xcolC, .slice xkeyA xkey.length xkeyC, .slice xforA xfors.length xforC, .slice xchkA xchks.length xchkC, .int .i64 x1, .string x2, .string x3, .string x4, .int .i64 x5, .bool x6, .int .i64 x7, .int .i64 x8, .string x9] 83)).alloc (.cells #[.int .i64 ytm, .string ytb, .string ynm, .slice ycolA ycols.length ycolC, .slice ykeyA ykey.length ykeyC, .slice yforA yfors.length yforC, .slice ychkA ychks.length ychkC, .int .i64 y1, .string y2, .string y3, .string y4, .int .i64 y5, .bool y6, .int .i64 y7, .int .i64 y8, .string y9] 83) := ⟨_, rfl⟩
 have hbW : Below w.heap.size w W := by rw [hW]; exact (Below.of_alloc _).alloc (by simp) _
 have hWs : w.heap.size + 1 < W.heap.size := by rw [hW]; simp
 have hT : W.heap[w.heap.size]? = some (.cells #[.int .i64 xtm, .string xtb, .string xnm, .slice xcolA xcols.length xcolC, .slice xkeyA xkey.length xkeyC, .slice xforA xfors.length xforC, .slice xchkA xchks.length xchkC, .int .i64 x1, .string x2, .string x3, .string x4, .int .i64 x5, .bool x6, .int .i64 x7, .int .i64 x8, .string x9] 83 (0, 0)) := by
  rw [hW]
  exact ((Below.of_alloc (w := w.alloc (.cells #[.int .i64 xtm, .string xtb, .string xnm, .slice xcolA xcols.length xcolC, .slice xkeyA xkey.length xkeyC, .slice xforA xfors.length xforC, .slice xchkA xchks.length xchkC, .int .i64 x1, .string x2, .string x3, .string x4, .int .i64 x5, .bool x6, .int .i64 x7, .int .i64 x8, .string x9] 83)) (.cells #[.int .i64 ytm, .string ytb, .string ynm, .slice ycolA ycols.length ycolC, .slice ykeyA ykey.length ykeyC, .slice yforA yfors.length yforC, .slice ychkA ychks.length ychkC, .int .i64 y1, .string y2, .string y3, .string y4, .int .i64 y5, .bool y6, .int .i64 y7, .int .i64 y8, .string y9] 83)).block _ (by simp)).trans (heap_alloc_new _ _)
 have hU : W.heap[w.heap.size + 1]? = some (.cells #[.int .i64 ytm, .string ytb, .string ynm, .slice ycolA ycols.length ycolC, .slice ykeyA ykey.length ykeyC, .slice yforA yfors.length yforC, .slice ychkA ychks.length ychkC, .int .i64 y1, .string y2, .string y3, .string y4, .int .i64 y5, .bool y6, .int .i64 y7, .int .i64 y8, .string y9] 83 (0, 0)) := by
  rw [hW]
  have h := heap_alloc_new (w.alloc (.cells #[.int .i64 xtm, .string xtb, .string xnm, .slice xcolA xcols.length xcolC, .slice xkeyA xkey.length xkeyC, .slice xforA xfors.length xforC, .slice xchkA xchks.length xchkC, .int .i64 x1, .string x2, .string x3, .string x4, .int .i64 x5, .bool x6, .int .i64 x7, .int .i64 x8, .string x9] 83)) (.cells #[.int .i64 ytm, .string ytb, .string ynm, .slice ycolA ycols.length ycolC, .slice ykeyA ykey.length ykeyC, .slice yforA yfors.length yforC, .slice ychkA ychks.length ychkC, .int .i64 y1, .string y2, .string y3, .string y4, .int .i64 y5, .bool y6, .int .i64 y7, .int .i64 y8, .string y9] 83)
  simpa using h
 have FX : Hid (∀ V, Below W.heap.size W V → V.heap[w.heap.size]? = some (.cells #[.int .i64 xtm, .string xtb, .string xnm, .slice xcolA xcols.length xcolC, .slice xkeyA xkey.length xkeyC, .slice xforA xfors.length xforC, .slice xchkA xchks.length xchkC, .int .i64 x1, .string x2, .string x3, .string x4, .int .i64 x5, .bool x6, .int .i64 x7, .int .i64 x8, .string x9] 83 (0, 0))) := Lib.hid (fun V hV => (hV.block _ (by omega)).trans hT)
 have FY : Hid (∀ V, Below W.heap.size W V → V.heap[w.heap.size + 1]? = some (.cells #[.int .i64 ytm, .string ytb, .string ynm, .slice ycolA ycols.length ycolC, .slice ykeyA ykey.length ykeyC, .slice yforA yfors.length yforC, .slice ychkA ychks.length ychkC, .int .i64 y1, .string y2, .string y3, .string y4, .int .i64 y5, .bool y6, .int .i64 y7, .int .i64 y8, .string y9] 83 (0, 0))) := Lib.hid (fun V hV => (hV.block _ hWs).trans hU)
 have HBW := Lib.hid hbW
 have HC0 : Hid (Below W.heap.size W W) := Lib.hid (Below.refl _ _)
 have HW := Lib.hid hW
 clear hT hU hbW hWs hW
 obtain ⟨v1, hv1⟩ : ∃ bo, bo = sTab ⟨xnm, xcolA, xcolC, xcols, xkeyA, xkeyC, xkey, xforA, xforC, xfors, xchkA, xchkC, xchks⟩ ⟨ynm, ycolA, ycolC, ycols, ykeyA, ykeyC, ykey, yforA, yforC, yfors, ychkA, ychkC, ychks⟩ := ⟨_, rfl⟩
 have K1 := fun (V : World) (hV : Below w.heap.size w V) => (show Calls Tryz.prog 181 #[.agg #[.string xnm, .slice xcolA xcols.length xcolC, .slice xkeyA xkey.length xkeyC, .slice xforA xfors.length xforC, .slice xchkA xchks.length xchkC], .agg #[.string ynm, .slice ycolA ycols.length ycolC, .slice ykeyA ykey.length ykeyC, .slice yforA yfors.length yforC, .slice ychkA ychks.length ychkC]] V (fun e w' => e = .returned (.bool (sTab ⟨xnm, xcolA, xcolC, xcols, xkeyA, xkeyC, xkey, xforA, xforC, xfors, xchkA, xchkC, xchks⟩ ⟨ynm, ycolA, ycolC, ycols, ykeyA, ykeyC, ykey, yforA, yforC, yfors, ychkA, ychkC, ychks⟩)) ∧ Below V.heap.size V w') from sameTable_any ⟨xnm, xcolA, xcolC, xcols, xkeyA, xkeyC, xkey, xforA, xforC, xfors, xchkA, xchkC, xchks⟩ ⟨ynm, ycolA, ycolC, ycols, ykeyA, ykeyC, ykey, yforA, yforC, yfors, ychkA, ychkC, ychks⟩ V (hx.create.below hV) (hy.create.below hV) (fun e he => (kx e he).blw hV) (fun e he => (ky e he).blw hV))
 rw [← hv1] at K1 HR
 clear hv1
 have c0 : W.cell? ⟨w.heap.size, 0, none⟩ = some (.int .i64 xtm) := cell_of_row W _ 0 _ _ _ (FX.out _ HC0.out)
 have c1 : W.cell? ⟨w.heap.size, 1, none⟩ = some (.string xtb) := cell_of_row W _ 1 _ _ _ (FX.out _ HC0.out)
 have c2 : W.cell? ⟨w.heap.size, 2, none⟩ = some (.string xnm) := cell_of_row W _ 2 _ _ _ (FX.out _ HC0.out)
 have c3 : W.cell? ⟨w.heap.size, 3, none⟩ = some (.slice xcolA xcols.length xcolC) := cell_of_row W _ 3 _ _ _ (FX.out _ HC0.out)
 have c4 : W.cell? ⟨w.heap.size, 4, none⟩ = some (.slice xkeyA xkey.length xkeyC) := cell_of_row W _ 4 _ _ _ (FX.out _ HC0.out)
 have c5 : W.cell? ⟨w.heap.size, 5, none⟩ = some (.slice xforA xfors.length xforC) := cell_of_row W _ 5 _ _ _ (FX.out _ HC0.out)
 have c6 : W.cell? ⟨w.heap.size, 6, none⟩ = some (.slice xchkA xchks.length xchkC) := cell_of_row W _ 6 _ _ _ (FX.out _ HC0.out)
 have c7 : W.cell? ⟨w.heap.size, 7, none⟩ = some (.int .i64 x1) := cell_of_row W _ 7 _ _ _ (FX.out _ HC0.out)
 have c8 : W.cell? ⟨w.heap.size, 8, none⟩ = some (.string x2) := cell_of_row W _ 8 _ _ _ (FX.out _ HC0.out)
 have c9 : W.cell? ⟨w.heap.size, 9, none⟩ = some (.string x3) := cell_of_row W _ 9 _ _ _ (FX.out _ HC0.out)
 have c10 : W.cell? ⟨w.heap.size, 10, none⟩ = some (.string x4) := cell_of_row W _ 10 _ _ _ (FX.out _ HC0.out)
 have c11 : W.cell? ⟨w.heap.size, 11, none⟩ = some (.int .i64 x5) := cell_of_row W _ 11 _ _ _ (FX.out _ HC0.out)
 have c12 : W.cell? ⟨w.heap.size, 12, none⟩ = some (.bool x6) := cell_of_row W _ 12 _ _ _ (FX.out _ HC0.out)
 have c13 : W.cell? ⟨w.heap.size, 13, none⟩ = some (.int .i64 x7) := cell_of_row W _ 13 _ _ _ (FX.out _ HC0.out)
 have c14 : W.cell? ⟨w.heap.size, 14, none⟩ = some (.int .i64 x8) := cell_of_row W _ 14 _ _ _ (FX.out _ HC0.out)
 have c15 : W.cell? ⟨w.heap.size, 15, none⟩ = some (.string x9) := cell_of_row W _ 15 _ _ _ (FX.out _ HC0.out)
 have d0 : W.cell? ⟨w.heap.size + 1, 0, none⟩ = some (.int .i64 ytm) := cell_of_row W _ 0 _ _ _ (FY.out _ HC0.out)
 have d1 : W.cell? ⟨w.heap.size + 1, 1, none⟩ = some (.string ytb) := cell_of_row W _ 1 _ _ _ (FY.out _ HC0.out)
 have d2 : W.cell? ⟨w.heap.size + 1, 2, none⟩ = some (.string ynm) := cell_of_row W _ 2 _ _ _ (FY.out _ HC0.out)
 have d3 : W.cell? ⟨w.heap.size + 1, 3, none⟩ = some (.slice ycolA ycols.length ycolC) := cell_of_row W _ 3 _ _ _ (FY.out _ HC0.out)
 have d4 : W.cell? ⟨w.heap.size + 1, 4, none⟩ = some (.slice ykeyA ykey.length ykeyC) := cell_of_row W _ 4 _ _ _ (FY.out _ HC0.out)
 have d5 : W.cell? ⟨w.heap.size + 1, 5, none⟩ = some (.slice yforA yfors.length yforC) := cell_of_row W _ 5 _ _ _ (FY.out _ HC0.out)
 have d6 : W.cell? ⟨w.heap.size + 1, 6, none⟩ = some (.slice ychkA ychks.length ychkC) := cell_of_row W _ 6 _ _ _ (FY.out _ HC0.out)
 have d7 : W.cell? ⟨w.heap.size + 1, 7, none⟩ = some (.int .i64 y1) := cell_of_row W _ 7 _ _ _ (FY.out _ HC0.out)
 have d8 : W.cell? ⟨w.heap.size + 1, 8, none⟩ = some (.string y2) := cell_of_row W _ 8 _ _ _ (FY.out _ HC0.out)
 have d9 : W.cell? ⟨w.heap.size + 1, 9, none⟩ = some (.string y3) := cell_of_row W _ 9 _ _ _ (FY.out _ HC0.out)
 have d10 : W.cell? ⟨w.heap.size + 1, 10, none⟩ = some (.string y4) := cell_of_row W _ 10 _ _ _ (FY.out _ HC0.out)
 have d11 : W.cell? ⟨w.heap.size + 1, 11, none⟩ = some (.int .i64 y5) := cell_of_row W _ 11 _ _ _ (FY.out _ HC0.out)
 have d12 : W.cell? ⟨w.heap.size + 1, 12, none⟩ = some (.bool y6) := cell_of_row W _ 12 _ _ _ (FY.out _ HC0.out)
 have d13 : W.cell? ⟨w.heap.size + 1, 13, none⟩ = some (.int .i64 y7) := cell_of_row W _ 13 _ _ _ (FY.out _ HC0.out)
 have d14 : W.cell? ⟨w.heap.size + 1, 14, none⟩ = some (.int .i64 y8) := cell_of_row W _ 14 _ _ _ (FY.out _ HC0.out)
 have d15 : W.cell? ⟨w.heap.size + 1, 15, none⟩ = some (.string y9) := cell_of_row W _ 15 _ _ _ (FY.out _ HC0.out)
 by_cases tt15 : xtm = ytm
 case neg =>
  have gg15 : decide (xtm = ytm) = false := decide_eq_false tt15
  have ee15 : (xtm == ytm) = false := by simpa using tt15
  have ff15 : (xtm != ytm) = true := by simpa using tt15
  have HF : Hid (rs = false) := Lib.hid (by rw [HR.out, gg15] <;> simp)
  go_enter Tryz.func88, Tryz.ntmps88
  go_wp2_with fail
  try rw [← HW.out]
  go_ret
  exact ⟨by rw [HF.out] <;> first | rfl | (simp; done), (HBW.out.trans (HC0.out.mono HBW.out.size))⟩
 case pos =>
  have GG15 : Hid (decide (xtm = ytm) = true) := Lib.hid (decide_eq_true tt15)
  have ee15 : (xtm == ytm) = true := by simpa using tt15
  have ff15 : (xtm != ytm) = false := by simpa using tt15
  clear tt15
  cases ee16 : (xtb.toList == ytb.toList)
  case false =>
   have gg16 : eqS xtb ytb = false := ee16
   have ff16 : (xtb.toList != ytb.toList) = true := by rw [bne, ee16]; rfl
   have HF : Hid (rs = false) := Lib.hid (by rw [HR.out, gg16] <;> simp)
   go_enter Tryz.func88, Tryz.ntmps88
   go_wp2_with fail
   try rw [← HW.out]
   go_ret
   exact ⟨by rw [HF.out] <;> first | rfl | (simp; done), (HBW.out.trans (HC0.out.mono HBW.out.size))⟩
  case true =>
   have GG16 : Hid (eqS xtb ytb = true) := Lib.hid ee16
   have ff16 : (xtb.toList != ytb.toList) = false := by rw [bne, ee16]; rfl
   by_cases tt17 : x1 = y1
   case neg =>
    have gg17 : decide (x1 = y1) = false := decide_eq_false tt17
    have ee17 : (x1 == y1) = false := by simpa using tt17
    have ff17 : (x1 != y1) = true := by simpa using tt17
    have HF : Hid (rs = false) := Lib.hid (by rw [HR.out, gg17] <;> simp)
    go_enter Tryz.func88, Tryz.ntmps88
    go_wp2_with fail
    try rw [← HW.out]
    go_ret
    exact ⟨by rw [HF.out] <;> first | rfl | (simp; done), (HBW.out.trans (HC0.out.mono HBW.out.size))⟩
   case pos =>
    have GG17 : Hid (decide (x1 = y1) = true) := Lib.hid (decide_eq_true tt17)
    have ee17 : (x1 == y1) = true := by simpa using tt17
    have ff17 : (x1 != y1) = false := by simpa using tt17
    clear tt17
    cases ee18 : (x2.toList == y2.toList)
    case false =>
     have gg18 : eqS x2 y2 = false := ee18
     have ff18 : (x2.toList != y2.toList) = true := by rw [bne, ee18]; rfl
     have HF : Hid (rs = false) := Lib.hid (by rw [HR.out, gg18] <;> simp)
     go_enter Tryz.func88, Tryz.ntmps88
     go_wp2_with fail
     try rw [← HW.out]
     go_ret
     exact ⟨by rw [HF.out] <;> first | rfl | (simp; done), (HBW.out.trans (HC0.out.mono HBW.out.size))⟩
    case true =>
     have GG18 : Hid (eqS x2 y2 = true) := Lib.hid ee18
     have ff18 : (x2.toList != y2.toList) = false := by rw [bne, ee18]; rfl
     cases ee19 : (x3.toList == y3.toList)
     case false =>
      have gg19 : eqS x3 y3 = false := ee19
      have ff19 : (x3.toList != y3.toList) = true := by rw [bne, ee19]; rfl
      have HF : Hid (rs = false) := Lib.hid (by rw [HR.out, gg19] <;> simp)
      go_enter Tryz.func88, Tryz.ntmps88
      go_wp2_with fail
      try rw [← HW.out]
      go_ret
      exact ⟨by rw [HF.out] <;> first | rfl | (simp; done), (HBW.out.trans (HC0.out.mono HBW.out.size))⟩
     case true =>
      have GG19 : Hid (eqS x3 y3 = true) := Lib.hid ee19
      have ff19 : (x3.toList != y3.toList) = false := by rw [bne, ee19]; rfl
      cases ee20 : (x4.toList == y4.toList)
      case false =>
       have gg20 : eqS x4 y4 = false := ee20
       have ff20 : (x4.toList != y4.toList) = true := by rw [bne, ee20]; rfl
       have HF : Hid (rs = false) := Lib.hid (by rw [HR.out, gg20] <;> simp)
       go_enter Tryz.func88, Tryz.ntmps88
       go_wp2_with fail
       try rw [← HW.out]
       go_ret
       exact ⟨by rw [HF.out] <;> first | rfl | (simp; done), (HBW.out.trans (HC0.out.mono HBW.out.size))⟩
      case true =>
       have GG20 : Hid (eqS x4 y4 = true) := Lib.hid ee20
       have ff20 : (x4.toList != y4.toList) = false := by rw [bne, ee20]; rfl
       by_cases tt21 : x5 = y5
       case neg =>
        have gg21 : decide (x5 = y5) = false := decide_eq_false tt21
        have ee21 : (x5 == y5) = false := by simpa using tt21
        have ff21 : (x5 != y5) = true := by simpa using tt21
        have HF : Hid (rs = false) := Lib.hid (by rw [HR.out, gg21] <;> simp)
        go_enter Tryz.func88, Tryz.ntmps88
        go_wp2_with fail
        try rw [← HW.out]
        go_ret
        exact ⟨by rw [HF.out] <;> first | rfl | (simp; done), (HBW.out.trans (HC0.out.mono HBW.out.size))⟩
       case pos =>
        have GG21 : Hid (decide (x5 = y5) = true) := Lib.hid (decide_eq_true tt21)
        have ee21 : (x5 == y5) = true := by simpa using tt21
        have ff21 : (x5 != y5) = false := by simpa using tt21
        clear tt21
        cases ee22 : (x6 == y6)
        case false =>
         have ff22 : (x6 != y6) = true := by rw [bne, ee22]; rfl
         have HF : Hid (rs = false) := Lib.hid (by rw [HR.out, ee22] <;> simp)
         go_enter Tryz.func88, Tryz.ntmps88
         go_wp2_with fail
         try rw [← HW.out]
         go_ret
         exact ⟨by rw [HF.out] <;> first | rfl | (simp; done), (HBW.out.trans (HC0.out.mono HBW.out.size))⟩
        case true =>
         have ff22 : (x6 != y6) = false := by rw [bne, ee22]; rfl
         by_cases tt23 : x7 = y7
         case neg =>
          have gg23 : decide (x7 = y7) = false := decide_eq_false tt23
          have ee23 : (x7 == y7) = false := by simpa using tt23
          have ff23 : (x7 != y7) = true := by simpa using tt23
          have HF : Hid (rs = false) := Lib.hid (by rw [HR.out, gg23] <;> simp)
          go_enter Tryz.func88, Tryz.ntmps88
          go_wp2_with fail
          try rw [← HW.out]
          go_ret
          exact ⟨by rw [HF.out] <;> first | rfl | (simp; done), (HBW.out.trans (HC0.out.mono HBW.out.size))⟩
         case pos =>
          have GG23 : Hid (decide (x7 = y7) = true) := Lib.hid (decide_eq_true tt23)
          have ee23 : (x7 == y7) = true := by simpa using tt23
          have ff23 : (x7 != y7) = false := by simpa using tt23
          clear tt23
          by_cases tt24 : x8 = y8
          case neg =>
           have gg24 : decide (x8 = y8) = false := decide_eq_false tt24
           have ee24 : (x8 == y8) = false := by simpa using tt24
           have ff24 : (x8 != y8) = true := by simpa using tt24
           have HF : Hid (rs = false) := Lib.hid (by rw [HR.out, gg24] <;> simp)
           go_enter Tryz.func88, Tryz.ntmps88
           go_wp2_with fail
           try rw [← HW.out]
           go_ret
           exact ⟨by rw [HF.out] <;> first | rfl | (simp; done), (HBW.out.trans (HC0.out.mono HBW.out.size))⟩
          case pos =>
           have GG24 : Hid (decide (x8 = y8) = true) := Lib.hid (decide_eq_true tt24)
           have ee24 : (x8 == y8) = true := by simpa using tt24
           have ff24 : (x8 != y8) = false := by simpa using tt24
           clear tt24
           cases ee25 : (x9.toList == y9.toList)
           case false =>
            have gg25 : eqS x9 y9 = false := ee25
            have ff25 : (x9.toList != y9.toList) = true := by rw [bne, ee25]; rfl
            have HF : Hid (rs = false) := Lib.hid (by rw [HR.out, gg25] <;> simp)
            go_enter Tryz.func88, Tryz.ntmps88
            go_wp2_with fail
            try rw [← HW.out]
            go_ret
            exact ⟨by rw [HF.out] <;> first | rfl | (simp; done), (HBW.out.trans (HC0.out.mono HBW.out.size))⟩
           case true =>
            have GG25 : Hid (eqS x9 y9 = true) := Lib.hid ee25
            have ff25 : (x9.toList != y9.toList) = false := by rw [bne, ee25]; rfl
            have KK26 := K1 W (HBW.out.trans (HC0.out.mono HBW.out.size))
            go_enter Tryz.func88, Tryz.ntmps88
            go_wp2_with fail
            try rw [← HW.out]
            (with_reducible refine KK26.mono ?_)
            rintro _ z26 ⟨rfl, hz26⟩
            clear KK26
            have HC26 : Hid (Below W.heap.size W z26) := Lib.hid (HC0.out.trans (hz26.mono HC0.out.size))
            clear hz26
            clear c0 d0 c1 d1 c2 d2 c3 d3 c4 d4 c5 d5 c6 d6 c7 d7 c8 d8 c9 d9 c10 d10 c11 d11 c12 d12 c13 d13 c14 d14 c15 d15
            have c0 : z26.cell? ⟨w.heap.size, 0, none⟩ = some (.int .i64 xtm) := cell_of_row z26 _ 0 _ _ _ (FX.out _ HC26.out)
            have c1 : z26.cell? ⟨w.heap.size, 1, none⟩ = some (.string xtb) := cell_of_row z26 _ 1 _ _ _ (FX.out _ HC26.out)
            have c2 : z26.cell? ⟨w.heap.size, 2, none⟩ = some (.string xnm) := cell_of_row z26 _ 2 _ _ _ (FX.out _ HC26.out)
            have c3 : z26.cell? ⟨w.heap.size, 3, none⟩ = some (.slice xcolA xcols.length xcolC) := cell_of_row z26 _ 3 _ _ _ (FX.out _ HC26.out)
            have c4 : z26.cell? ⟨w.heap.size, 4, none⟩ = some (.slice xkeyA xkey.length xkeyC) := cell_of_row z26 _ 4 _ _ _ (FX.out _ HC26.out)
            have c5 : z26.cell? ⟨w.heap.size, 5, none⟩ = some (.slice xforA xfors.length xforC) := cell_of_row z26 _ 5 _ _ _ (FX.out _ HC26.out)
            have c6 : z26.cell? ⟨w.heap.size, 6, none⟩ = some (.slice xchkA xchks.length xchkC) := cell_of_row z26 _ 6 _ _ _ (FX.out _ HC26.out)
            have c7 : z26.cell? ⟨w.heap.size, 7, none⟩ = some (.int .i64 x1) := cell_of_row z26 _ 7 _ _ _ (FX.out _ HC26.out)
            have c8 : z26.cell? ⟨w.heap.size, 8, none⟩ = some (.string x2) := cell_of_row z26 _ 8 _ _ _ (FX.out _ HC26.out)
            have c9 : z26.cell? ⟨w.heap.size, 9, none⟩ = some (.string x3) := cell_of_row z26 _ 9 _ _ _ (FX.out _ HC26.out)
            have c10 : z26.cell? ⟨w.heap.size, 10, none⟩ = some (.string x4) := cell_of_row z26 _ 10 _ _ _ (FX.out _ HC26.out)
            have c11 : z26.cell? ⟨w.heap.size, 11, none⟩ = some (.int .i64 x5) := cell_of_row z26 _ 11 _ _ _ (FX.out _ HC26.out)
            have c12 : z26.cell? ⟨w.heap.size, 12, none⟩ = some (.bool x6) := cell_of_row z26 _ 12 _ _ _ (FX.out _ HC26.out)
            have c13 : z26.cell? ⟨w.heap.size, 13, none⟩ = some (.int .i64 x7) := cell_of_row z26 _ 13 _ _ _ (FX.out _ HC26.out)
            have c14 : z26.cell? ⟨w.heap.size, 14, none⟩ = some (.int .i64 x8) := cell_of_row z26 _ 14 _ _ _ (FX.out _ HC26.out)
            have c15 : z26.cell? ⟨w.heap.size, 15, none⟩ = some (.string x9) := cell_of_row z26 _ 15 _ _ _ (FX.out _ HC26.out)
            have d0 : z26.cell? ⟨w.heap.size + 1, 0, none⟩ = some (.int .i64 ytm) := cell_of_row z26 _ 0 _ _ _ (FY.out _ HC26.out)
            have d1 : z26.cell? ⟨w.heap.size + 1, 1, none⟩ = some (.string ytb) := cell_of_row z26 _ 1 _ _ _ (FY.out _ HC26.out)
            have d2 : z26.cell? ⟨w.heap.size + 1, 2, none⟩ = some (.string ynm) := cell_of_row z26 _ 2 _ _ _ (FY.out _ HC26.out)
            have d3 : z26.cell? ⟨w.heap.size + 1, 3, none⟩ = some (.slice ycolA ycols.length ycolC) := cell_of_row z26 _ 3 _ _ _ (FY.out _ HC26.out)
            have d4 : z26.cell? ⟨w.heap.size + 1, 4, none⟩ = some (.slice ykeyA ykey.length ykeyC) := cell_of_row z26 _ 4 _ _ _ (FY.out _ HC26.out)
            have d5 : z26.cell? ⟨w.heap.size + 1, 5, none⟩ = some (.slice yforA yfors.length yforC) := cell_of_row z26 _ 5 _ _ _ (FY.out _ HC26.out)
            have d6 : z26.cell? ⟨w.heap.size + 1, 6, none⟩ = some (.slice ychkA ychks.length ychkC) := cell_of_row z26 _ 6 _ _ _ (FY.out _ HC26.out)
            have d7 : z26.cell? ⟨w.heap.size + 1, 7, none⟩ = some (.int .i64 y1) := cell_of_row z26 _ 7 _ _ _ (FY.out _ HC26.out)
            have d8 : z26.cell? ⟨w.heap.size + 1, 8, none⟩ = some (.string y2) := cell_of_row z26 _ 8 _ _ _ (FY.out _ HC26.out)
            have d9 : z26.cell? ⟨w.heap.size + 1, 9, none⟩ = some (.string y3) := cell_of_row z26 _ 9 _ _ _ (FY.out _ HC26.out)
            have d10 : z26.cell? ⟨w.heap.size + 1, 10, none⟩ = some (.string y4) := cell_of_row z26 _ 10 _ _ _ (FY.out _ HC26.out)
            have d11 : z26.cell? ⟨w.heap.size + 1, 11, none⟩ = some (.int .i64 y5) := cell_of_row z26 _ 11 _ _ _ (FY.out _ HC26.out)
            have d12 : z26.cell? ⟨w.heap.size + 1, 12, none⟩ = some (.bool y6) := cell_of_row z26 _ 12 _ _ _ (FY.out _ HC26.out)
            have d13 : z26.cell? ⟨w.heap.size + 1, 13, none⟩ = some (.int .i64 y7) := cell_of_row z26 _ 13 _ _ _ (FY.out _ HC26.out)
            have d14 : z26.cell? ⟨w.heap.size + 1, 14, none⟩ = some (.int .i64 y8) := cell_of_row z26 _ 14 _ _ _ (FY.out _ HC26.out)
            have d15 : z26.cell? ⟨w.heap.size + 1, 15, none⟩ = some (.string y9) := cell_of_row z26 _ 15 _ _ _ (FY.out _ HC26.out)
            cases v1
            case false =>
             have HF : Hid (rs = false) := Lib.hid (by rw [HR.out] <;> simp)
             go_wp2_with fail
             go_ret
             exact ⟨by rw [HF.out] <;> first | rfl | (simp; done), (HBW.out.trans (HC26.out.mono HBW.out.size))⟩
            case true =>
             have HF : Hid (rs = true) := Lib.hid (by rw [HR.out, GG15.out, GG16.out, GG17.out, GG18.out, GG19.out, GG20.out, GG21.out, ee22, GG23.out, GG24.out, GG25.out] <;> first | rfl | (simp; done))
             go_wp2_with fail
             go_ret
             exact ⟨by rw [HF.out] <;> first | rfl | (simp; done), (HBW.out.trans (HC26.out.mono HBW.out.size))⟩
set_option maxRecDepth 1000000 in
set_option maxHeartbeats 8000000 in
theorem sameFact_any (x y : RF) (w : World) (hx : x.is w (· < w.heap.size)) (hy : y.is w (· < w.heap.size)) :
  Calls Tryz.prog 93 #[.agg (RF.enc x).toArray, .agg (RF.enc y).toArray] w fun e w' => e = .returned (.bool (sFct x y)) ∧ Below w.heap.size w w' := by
 obtain ⟨xA, xn, xc, xr, x1, x2⟩ := x
 obtain ⟨yA, yn, yc, yr, y1, y2⟩ := y
 obtain ⟨rs, hrs⟩ : ∃ r, r = sFct ⟨xA, xn, xc, xr, x1, x2⟩ ⟨yA, yn, yc, yr, y1, y2⟩ := ⟨_, rfl⟩
 rw [← hrs]
 show Calls Tryz.prog 93 #[.agg #[.slice xA xn xc, .int .i64 x1, .int .i64 x2], .agg #[.slice yA yn yc, .int .i64 y1, .int .i64 y2]] w _
 have HR : Hid (rs = (decide (x1 = y1) && (decide (x2 = y2) && sameL sVal xr yr))) := Lib.hid (by rw [hrs]; rfl)
 clear hrs
 obtain ⟨W, hW⟩ : ∃ W, W = (w.alloc (.cells #[.slice xA xn xc, .int .i64 x1, .int .i64 x2] 68)).alloc (.cells #[.slice yA yn yc, .int .i64 y1, .int .i64 y2] 68) := ⟨_, rfl⟩
 have hbW : Below w.heap.size w W := by rw [hW]; exact (Below.of_alloc _).alloc (by simp) _
 have hWs : w.heap.size + 1 < W.heap.size := by rw [hW]; simp
 have hT : W.heap[w.heap.size]? = some (.cells #[.slice xA xn xc, .int .i64 x1, .int .i64 x2] 68 (0, 0)) := by
  rw [hW]
  exact ((Below.of_alloc (w := w.alloc (.cells #[.slice xA xn xc, .int .i64 x1, .int .i64 x2] 68)) (.cells #[.slice yA yn yc, .int .i64 y1, .int .i64 y2] 68)).block _ (by simp)).trans (heap_alloc_new _ _)
 have hU : W.heap[w.heap.size + 1]? = some (.cells #[.slice yA yn yc, .int .i64 y1, .int .i64 y2] 68 (0, 0)) := by
  rw [hW]
  have h := heap_alloc_new (w.alloc (.cells #[.slice xA xn xc, .int .i64 x1, .int .i64 x2] 68)) (.cells #[.slice yA yn yc, .int .i64 y1, .int .i64 y2] 68)
  simpa using h
 have FX : Hid (∀ V, Below W.heap.size W V → V.heap[w.heap.size]? = some (.cells #[.slice xA xn xc, .int .i64 x1, .int .i64 x2] 68 (0, 0))) := Lib.hid (fun V hV => (hV.block _ (by omega)).trans hT)
 have FY : Hid (∀ V, Below W.heap.size W V → V.heap[w.heap.size + 1]? = some (.cells #[.slice yA yn yc, .int .i64 y1, .int .i64 y2] 68 (0, 0))) := Lib.hid (fun V hV => (hV.block _ hWs).trans hU)
 have HBW := Lib.hid hbW
 have HC0 : Hid (Below W.heap.size W W) := Lib.hid (Below.refl _ _)
 have HW := Lib.hid hW
 clear hT hU hbW hWs hW
 obtain ⟨v1, hv1⟩ : ∃ bo, bo = sameL sVal xr yr := ⟨_, rfl⟩
 have K1 := fun (V : World) (hV : Below w.heap.size w V) => tupleEqual_any _ _ xr yr V (RdE.below (K := 3) (enc := Val.cells) hx.1 hV) (RdE.below (K := 3) (enc := Val.cells) hy.1 hV)
 rw [← hv1] at K1 HR
 clear hv1
 have c0 : W.cell? ⟨w.heap.size, 0, none⟩ = some (.slice xA xn xc) := cell_of_row W _ 0 _ _ _ (FX.out _ HC0.out)
 have c1 : W.cell? ⟨w.heap.size, 1, none⟩ = some (.int .i64 x1) := cell_of_row W _ 1 _ _ _ (FX.out _ HC0.out)
 have c2 : W.cell? ⟨w.heap.size, 2, none⟩ = some (.int .i64 x2) := cell_of_row W _ 2 _ _ _ (FX.out _ HC0.out)
 have d0 : W.cell? ⟨w.heap.size + 1, 0, none⟩ = some (.slice yA yn yc) := cell_of_row W _ 0 _ _ _ (FY.out _ HC0.out)
 have d1 : W.cell? ⟨w.heap.size + 1, 1, none⟩ = some (.int .i64 y1) := cell_of_row W _ 1 _ _ _ (FY.out _ HC0.out)
 have d2 : W.cell? ⟨w.heap.size + 1, 2, none⟩ = some (.int .i64 y2) := cell_of_row W _ 2 _ _ _ (FY.out _ HC0.out)
 by_cases tt27 : x1 = y1
 case neg =>
  have gg27 : decide (x1 = y1) = false := decide_eq_false tt27
  have ee27 : (x1 == y1) = false := by simpa using tt27
  have ff27 : (x1 != y1) = true := by simpa using tt27
  have HF : Hid (rs = false) := Lib.hid (by rw [HR.out, gg27] <;> simp)
  go_enter Tryz.func93, Tryz.ntmps93
  go_wp2_with fail
  try rw [← HW.out]
  go_ret
  exact ⟨by rw [HF.out] <;> first | rfl | (simp; done), (HBW.out.trans (HC0.out.mono HBW.out.size))⟩
 case pos =>
  have GG27 : Hid (decide (x1 = y1) = true) := Lib.hid (decide_eq_true tt27)
  have ee27 : (x1 == y1) = true := by simpa using tt27
  have ff27 : (x1 != y1) = false := by simpa using tt27
  clear tt27
  by_cases tt28 : x2 = y2
  case neg =>
   have gg28 : decide (x2 = y2) = false := decide_eq_false tt28
   have ee28 : (x2 == y2) = false := by simpa using tt28
   have ff28 : (x2 != y2) = true := by simpa using tt28
   have HF : Hid (rs = false) := Lib.hid (by rw [HR.out, gg28] <;> simp)
   go_enter Tryz.func93, Tryz.ntmps93
   go_wp2_with fail
   try rw [← HW.out]
   go_ret
   exact ⟨by rw [HF.out] <;> first | rfl | (simp; done), (HBW.out.trans (HC0.out.mono HBW.out.size))⟩
  case pos =>
   have GG28 : Hid (decide (x2 = y2) = true) := Lib.hid (decide_eq_true tt28)
   have ee28 : (x2 == y2) = true := by simpa using tt28
   have ff28 : (x2 != y2) = false := by simpa using tt28
   clear tt28
   have KK29 := K1 W (HBW.out.trans (HC0.out.mono HBW.out.size))
   go_enter Tryz.func93, Tryz.ntmps93
   go_wp2_with fail
   try rw [← HW.out]
   (with_reducible refine KK29.mono ?_)
   rintro _ z29 ⟨rfl, hz29⟩
   clear KK29
   have HC29 : Hid (Below W.heap.size W z29) := Lib.hid (HC0.out.trans (hz29.mono HC0.out.size))
   clear hz29
   clear c0 d0 c1 d1 c2 d2
   have c0 : z29.cell? ⟨w.heap.size, 0, none⟩ = some (.slice xA xn xc) := cell_of_row z29 _ 0 _ _ _ (FX.out _ HC29.out)
   have c1 : z29.cell? ⟨w.heap.size, 1, none⟩ = some (.int .i64 x1) := cell_of_row z29 _ 1 _ _ _ (FX.out _ HC29.out)
   have c2 : z29.cell? ⟨w.heap.size, 2, none⟩ = some (.int .i64 x2) := cell_of_row z29 _ 2 _ _ _ (FX.out _ HC29.out)
   have d0 : z29.cell? ⟨w.heap.size + 1, 0, none⟩ = some (.slice yA yn yc) := cell_of_row z29 _ 0 _ _ _ (FY.out _ HC29.out)
   have d1 : z29.cell? ⟨w.heap.size + 1, 1, none⟩ = some (.int .i64 y1) := cell_of_row z29 _ 1 _ _ _ (FY.out _ HC29.out)
   have d2 : z29.cell? ⟨w.heap.size + 1, 2, none⟩ = some (.int .i64 y2) := cell_of_row z29 _ 2 _ _ _ (FY.out _ HC29.out)
   cases v1
   case false =>
    have HF : Hid (rs = false) := Lib.hid (by rw [HR.out] <;> simp)
    go_wp2_with fail
    go_ret
    exact ⟨by rw [HF.out] <;> first | rfl | (simp; done), (HBW.out.trans (HC29.out.mono HBW.out.size))⟩
   case true =>
    have HF : Hid (rs = true) := Lib.hid (by rw [HR.out, GG27.out, GG28.out] <;> first | rfl | (simp; done))
    go_wp2_with fail
    go_ret
    exact ⟨by rw [HF.out] <;> first | rfl | (simp; done), (HBW.out.trans (HC29.out.mono HBW.out.size))⟩
set_option maxRecDepth 1000000 in
set_option maxHeartbeats 8000000 in
theorem sameVersion_any (x y : VP) (w : World) (hx : VerIs w (· < w.heap.size) x.1 x.2) (hy : VerIs w (· < w.heap.size) y.1 y.2) :
  Calls Tryz.prog 102 #[.agg (encP x).toArray, .agg (encP y).toArray] w fun e w' => e = .returned (.bool (sVer x y)) ∧ Below w.heap.size w w' := by
 obtain ⟨⟨x1, x2, xA, xn, xc, x3, x4, x5, x6, x7, x8⟩, xv⟩ := x
 obtain ⟨⟨y1, y2, yA, yn, yc, y3, y4, y5, y6, y7, y8⟩, yv⟩ := y
 obtain ⟨rs, hrs⟩ : ∃ r, r = sVer ⟨⟨x1, x2, xA, xn, xc, x3, x4, x5, x6, x7, x8⟩, xv⟩ ⟨⟨y1, y2, yA, yn, yc, y3, y4, y5, y6, y7, y8⟩, yv⟩ := ⟨_, rfl⟩
 rw [← hrs]
 show Calls Tryz.prog 102 #[.agg #[.int .i64 x1, .int .i64 x2, .slice xA xn xc, .int .i64 x3, .int .i64 x4, .int .i64 x5, .int .i64 x6, .int .i64 x7, .int .i64 x8], .agg #[.int .i64 y1, .int .i64 y2, .slice yA yn yc, .int .i64 y3, .int .i64 y4, .int .i64 y5, .int .i64 y6, .int .i64 y7, .int .i64 y8]] w _
 have HR : Hid (rs = (decide (x1 = y1) && (decide (x2 = y2) && (decide (x3 = y3) && (decide (x4 = y4) && (decide (x5 = y5) && (decide (x6 = y6) && (decide (x7 = y7) && (decide (x8 = y8) && sameL sVal xv.row yv.row))))))))) := Lib.hid (by rw [hrs]; rfl)
 clear hrs
 obtain ⟨W, hW⟩ : ∃ W, W = (w.alloc (.cells #[.int .i64 x1, .int .i64 x2, .slice xA xn xc, .int .i64 x3, .int .i64 x4, .int .i64 x5, .int .i64 x6, .int .i64 x7, .int .i64 x8] 167)).alloc (.cells #[.int .i64 y1, .int .i64 y2, .slice yA yn yc, .int .i64 y3, .int .i64 y4, .int .i64 y5, .int .i64 y6, .int .i64 y7, .int .i64 y8] 167) := ⟨_, rfl⟩
 have hbW : Below w.heap.size w W := by rw [hW]; exact (Below.of_alloc _).alloc (by simp) _
 have hWs : w.heap.size + 1 < W.heap.size := by rw [hW]; simp
 have hT : W.heap[w.heap.size]? = some (.cells #[.int .i64 x1, .int .i64 x2, .slice xA xn xc, .int .i64 x3, .int .i64 x4, .int .i64 x5, .int .i64 x6, .int .i64 x7, .int .i64 x8] 167 (0, 0)) := by
  rw [hW]
  exact ((Below.of_alloc (w := w.alloc (.cells #[.int .i64 x1, .int .i64 x2, .slice xA xn xc, .int .i64 x3, .int .i64 x4, .int .i64 x5, .int .i64 x6, .int .i64 x7, .int .i64 x8] 167)) (.cells #[.int .i64 y1, .int .i64 y2, .slice yA yn yc, .int .i64 y3, .int .i64 y4, .int .i64 y5, .int .i64 y6, .int .i64 y7, .int .i64 y8] 167)).block _ (by simp)).trans (heap_alloc_new _ _)
 have hU : W.heap[w.heap.size + 1]? = some (.cells #[.int .i64 y1, .int .i64 y2, .slice yA yn yc, .int .i64 y3, .int .i64 y4, .int .i64 y5, .int .i64 y6, .int .i64 y7, .int .i64 y8] 167 (0, 0)) := by
  rw [hW]
  have h := heap_alloc_new (w.alloc (.cells #[.int .i64 x1, .int .i64 x2, .slice xA xn xc, .int .i64 x3, .int .i64 x4, .int .i64 x5, .int .i64 x6, .int .i64 x7, .int .i64 x8] 167)) (.cells #[.int .i64 y1, .int .i64 y2, .slice yA yn yc, .int .i64 y3, .int .i64 y4, .int .i64 y5, .int .i64 y6, .int .i64 y7, .int .i64 y8] 167)
  simpa using h
 have FX : Hid (∀ V, Below W.heap.size W V → V.heap[w.heap.size]? = some (.cells #[.int .i64 x1, .int .i64 x2, .slice xA xn xc, .int .i64 x3, .int .i64 x4, .int .i64 x5, .int .i64 x6, .int .i64 x7, .int .i64 x8] 167 (0, 0))) := Lib.hid (fun V hV => (hV.block _ (by omega)).trans hT)
 have FY : Hid (∀ V, Below W.heap.size W V → V.heap[w.heap.size + 1]? = some (.cells #[.int .i64 y1, .int .i64 y2, .slice yA yn yc, .int .i64 y3, .int .i64 y4, .int .i64 y5, .int .i64 y6, .int .i64 y7, .int .i64 y8] 167 (0, 0))) := Lib.hid (fun V hV => (hV.block _ hWs).trans hU)
 have HBW := Lib.hid hbW
 have HC0 : Hid (Below W.heap.size W W) := Lib.hid (Below.refl _ _)
 have HW := Lib.hid hW
 clear hT hU hbW hWs hW
 obtain ⟨v1, hv1⟩ : ∃ bo, bo = sameL sVal xv.row yv.row := ⟨_, rfl⟩
 have K1 := fun (V : World) (hV : Below w.heap.size w V) => tupleEqual_any _ _ xv.row yv.row V (RdE.below (K := 3) (enc := Val.cells) hx.row hV) (RdE.below (K := 3) (enc := Val.cells) hy.row hV)
 rw [← hv1] at K1 HR
 clear hv1
 have c0 : W.cell? ⟨w.heap.size, 0, none⟩ = some (.int .i64 x1) := cell_of_row W _ 0 _ _ _ (FX.out _ HC0.out)
 have c1 : W.cell? ⟨w.heap.size, 1, none⟩ = some (.int .i64 x2) := cell_of_row W _ 1 _ _ _ (FX.out _ HC0.out)
 have c2 : W.cell? ⟨w.heap.size, 2, none⟩ = some (.slice xA xn xc) := cell_of_row W _ 2 _ _ _ (FX.out _ HC0.out)
 have c3 : W.cell? ⟨w.heap.size, 3, none⟩ = some (.int .i64 x3) := cell_of_row W _ 3 _ _ _ (FX.out _ HC0.out)
 have c4 : W.cell? ⟨w.heap.size, 4, none⟩ = some (.int .i64 x4) := cell_of_row W _ 4 _ _ _ (FX.out _ HC0.out)
 have c5 : W.cell? ⟨w.heap.size, 5, none⟩ = some (.int .i64 x5) := cell_of_row W _ 5 _ _ _ (FX.out _ HC0.out)
 have c6 : W.cell? ⟨w.heap.size, 6, none⟩ = some (.int .i64 x6) := cell_of_row W _ 6 _ _ _ (FX.out _ HC0.out)
 have c7 : W.cell? ⟨w.heap.size, 7, none⟩ = some (.int .i64 x7) := cell_of_row W _ 7 _ _ _ (FX.out _ HC0.out)
 have c8 : W.cell? ⟨w.heap.size, 8, none⟩ = some (.int .i64 x8) := cell_of_row W _ 8 _ _ _ (FX.out _ HC0.out)
 have d0 : W.cell? ⟨w.heap.size + 1, 0, none⟩ = some (.int .i64 y1) := cell_of_row W _ 0 _ _ _ (FY.out _ HC0.out)
 have d1 : W.cell? ⟨w.heap.size + 1, 1, none⟩ = some (.int .i64 y2) := cell_of_row W _ 1 _ _ _ (FY.out _ HC0.out)
 have d2 : W.cell? ⟨w.heap.size + 1, 2, none⟩ = some (.slice yA yn yc) := cell_of_row W _ 2 _ _ _ (FY.out _ HC0.out)
 have d3 : W.cell? ⟨w.heap.size + 1, 3, none⟩ = some (.int .i64 y3) := cell_of_row W _ 3 _ _ _ (FY.out _ HC0.out)
 have d4 : W.cell? ⟨w.heap.size + 1, 4, none⟩ = some (.int .i64 y4) := cell_of_row W _ 4 _ _ _ (FY.out _ HC0.out)
 have d5 : W.cell? ⟨w.heap.size + 1, 5, none⟩ = some (.int .i64 y5) := cell_of_row W _ 5 _ _ _ (FY.out _ HC0.out)
 have d6 : W.cell? ⟨w.heap.size + 1, 6, none⟩ = some (.int .i64 y6) := cell_of_row W _ 6 _ _ _ (FY.out _ HC0.out)
 have d7 : W.cell? ⟨w.heap.size + 1, 7, none⟩ = some (.int .i64 y7) := cell_of_row W _ 7 _ _ _ (FY.out _ HC0.out)
 have d8 : W.cell? ⟨w.heap.size + 1, 8, none⟩ = some (.int .i64 y8) := cell_of_row W _ 8 _ _ _ (FY.out _ HC0.out)
 by_cases tt30 : x1 = y1
 case neg =>
  have gg30 : decide (x1 = y1) = false := decide_eq_false tt30
  have ee30 : (x1 == y1) = false := by simpa using tt30
  have ff30 : (x1 != y1) = true := by simpa using tt30
  have HF : Hid (rs = false) := Lib.hid (by rw [HR.out, gg30] <;> simp)
  go_enter Tryz.func102, Tryz.ntmps102
  go_wp2_with fail
  try rw [← HW.out]
  go_ret
  exact ⟨by rw [HF.out] <;> first | rfl | (simp; done), (HBW.out.trans (HC0.out.mono HBW.out.size))⟩
 case pos =>
  have GG30 : Hid (decide (x1 = y1) = true) := Lib.hid (decide_eq_true tt30)
  have ee30 : (x1 == y1) = true := by simpa using tt30
  have ff30 : (x1 != y1) = false := by simpa using tt30
  clear tt30
  by_cases tt31 : x2 = y2
  case neg =>
   have gg31 : decide (x2 = y2) = false := decide_eq_false tt31
   have ee31 : (x2 == y2) = false := by simpa using tt31
   have ff31 : (x2 != y2) = true := by simpa using tt31
   have HF : Hid (rs = false) := Lib.hid (by rw [HR.out, gg31] <;> simp)
   go_enter Tryz.func102, Tryz.ntmps102
   go_wp2_with fail
   try rw [← HW.out]
   go_ret
   exact ⟨by rw [HF.out] <;> first | rfl | (simp; done), (HBW.out.trans (HC0.out.mono HBW.out.size))⟩
  case pos =>
   have GG31 : Hid (decide (x2 = y2) = true) := Lib.hid (decide_eq_true tt31)
   have ee31 : (x2 == y2) = true := by simpa using tt31
   have ff31 : (x2 != y2) = false := by simpa using tt31
   clear tt31
   by_cases tt32 : x3 = y3
   case neg =>
    have gg32 : decide (x3 = y3) = false := decide_eq_false tt32
    have ee32 : (x3 == y3) = false := by simpa using tt32
    have ff32 : (x3 != y3) = true := by simpa using tt32
    have HF : Hid (rs = false) := Lib.hid (by rw [HR.out, gg32] <;> simp)
    go_enter Tryz.func102, Tryz.ntmps102
    go_wp2_with fail
    try rw [← HW.out]
    go_ret
    exact ⟨by rw [HF.out] <;> first | rfl | (simp; done), (HBW.out.trans (HC0.out.mono HBW.out.size))⟩
   case pos =>
    have GG32 : Hid (decide (x3 = y3) = true) := Lib.hid (decide_eq_true tt32)
    have ee32 : (x3 == y3) = true := by simpa using tt32
    have ff32 : (x3 != y3) = false := by simpa using tt32
    clear tt32
    by_cases tt33 : x4 = y4
    case neg =>
     have gg33 : decide (x4 = y4) = false := decide_eq_false tt33
     have ee33 : (x4 == y4) = false := by simpa using tt33
     have ff33 : (x4 != y4) = true := by simpa using tt33
     have HF : Hid (rs = false) := Lib.hid (by rw [HR.out, gg33] <;> simp)
     go_enter Tryz.func102, Tryz.ntmps102
     go_wp2_with fail
     try rw [← HW.out]
     go_ret
     exact ⟨by rw [HF.out] <;> first | rfl | (simp; done), (HBW.out.trans (HC0.out.mono HBW.out.size))⟩
    case pos =>
     have GG33 : Hid (decide (x4 = y4) = true) := Lib.hid (decide_eq_true tt33)
     have ee33 : (x4 == y4) = true := by simpa using tt33
     have ff33 : (x4 != y4) = false := by simpa using tt33
     clear tt33
     by_cases tt34 : x5 = y5
     case neg =>
      have gg34 : decide (x5 = y5) = false := decide_eq_false tt34
      have ee34 : (x5 == y5) = false := by simpa using tt34
      have ff34 : (x5 != y5) = true := by simpa using tt34
      have HF : Hid (rs = false) := Lib.hid (by rw [HR.out, gg34] <;> simp)
      go_enter Tryz.func102, Tryz.ntmps102
      go_wp2_with fail
      try rw [← HW.out]
      go_ret
      exact ⟨by rw [HF.out] <;> first | rfl | (simp; done), (HBW.out.trans (HC0.out.mono HBW.out.size))⟩
     case pos =>
      have GG34 : Hid (decide (x5 = y5) = true) := Lib.hid (decide_eq_true tt34)
      have ee34 : (x5 == y5) = true := by simpa using tt34
      have ff34 : (x5 != y5) = false := by simpa using tt34
      clear tt34
      by_cases tt35 : x6 = y6
      case neg =>
       have gg35 : decide (x6 = y6) = false := decide_eq_false tt35
       have ee35 : (x6 == y6) = false := by simpa using tt35
       have ff35 : (x6 != y6) = true := by simpa using tt35
       have HF : Hid (rs = false) := Lib.hid (by rw [HR.out, gg35] <;> simp)
       go_enter Tryz.func102, Tryz.ntmps102
       go_wp2_with fail
       try rw [← HW.out]
       go_ret
       exact ⟨by rw [HF.out] <;> first | rfl | (simp; done), (HBW.out.trans (HC0.out.mono HBW.out.size))⟩
      case pos =>
       have GG35 : Hid (decide (x6 = y6) = true) := Lib.hid (decide_eq_true tt35)
       have ee35 : (x6 == y6) = true := by simpa using tt35
       have ff35 : (x6 != y6) = false := by simpa using tt35
       clear tt35
       by_cases tt36 : x7 = y7
       case neg =>
        have gg36 : decide (x7 = y7) = false := decide_eq_false tt36
        have ee36 : (x7 == y7) = false := by simpa using tt36
        have ff36 : (x7 != y7) = true := by simpa using tt36
        have HF : Hid (rs = false) := Lib.hid (by rw [HR.out, gg36] <;> simp)
        go_enter Tryz.func102, Tryz.ntmps102
        go_wp2_with fail
        try rw [← HW.out]
        go_ret
        exact ⟨by rw [HF.out] <;> first | rfl | (simp; done), (HBW.out.trans (HC0.out.mono HBW.out.size))⟩
       case pos =>
        have GG36 : Hid (decide (x7 = y7) = true) := Lib.hid (decide_eq_true tt36)
        have ee36 : (x7 == y7) = true := by simpa using tt36
        have ff36 : (x7 != y7) = false := by simpa using tt36
        clear tt36
        by_cases tt37 : x8 = y8
        case neg =>
         have gg37 : decide (x8 = y8) = false := decide_eq_false tt37
         have ee37 : (x8 == y8) = false := by simpa using tt37
         have ff37 : (x8 != y8) = true := by simpa using tt37
         have HF : Hid (rs = false) := Lib.hid (by rw [HR.out, gg37] <;> simp)
         go_enter Tryz.func102, Tryz.ntmps102
         go_wp2_with fail
         try rw [← HW.out]
         go_ret
         exact ⟨by rw [HF.out] <;> first | rfl | (simp; done), (HBW.out.trans (HC0.out.mono HBW.out.size))⟩
        case pos =>
         have GG37 : Hid (decide (x8 = y8) = true) := Lib.hid (decide_eq_true tt37)
         have ee37 : (x8 == y8) = true := by simpa using tt37
         have ff37 : (x8 != y8) = false := by simpa using tt37
         clear tt37
         have KK38 := K1 W (HBW.out.trans (HC0.out.mono HBW.out.size))
         go_enter Tryz.func102, Tryz.ntmps102
         go_wp2_with fail
         try rw [← HW.out]
         (with_reducible refine KK38.mono ?_)
         rintro _ z38 ⟨rfl, hz38⟩
         clear KK38
         have HC38 : Hid (Below W.heap.size W z38) := Lib.hid (HC0.out.trans (hz38.mono HC0.out.size))
         clear hz38
         clear c0 d0 c1 d1 c2 d2 c3 d3 c4 d4 c5 d5 c6 d6 c7 d7 c8 d8
         have c0 : z38.cell? ⟨w.heap.size, 0, none⟩ = some (.int .i64 x1) := cell_of_row z38 _ 0 _ _ _ (FX.out _ HC38.out)
         have c1 : z38.cell? ⟨w.heap.size, 1, none⟩ = some (.int .i64 x2) := cell_of_row z38 _ 1 _ _ _ (FX.out _ HC38.out)
         have c2 : z38.cell? ⟨w.heap.size, 2, none⟩ = some (.slice xA xn xc) := cell_of_row z38 _ 2 _ _ _ (FX.out _ HC38.out)
         have c3 : z38.cell? ⟨w.heap.size, 3, none⟩ = some (.int .i64 x3) := cell_of_row z38 _ 3 _ _ _ (FX.out _ HC38.out)
         have c4 : z38.cell? ⟨w.heap.size, 4, none⟩ = some (.int .i64 x4) := cell_of_row z38 _ 4 _ _ _ (FX.out _ HC38.out)
         have c5 : z38.cell? ⟨w.heap.size, 5, none⟩ = some (.int .i64 x5) := cell_of_row z38 _ 5 _ _ _ (FX.out _ HC38.out)
         have c6 : z38.cell? ⟨w.heap.size, 6, none⟩ = some (.int .i64 x6) := cell_of_row z38 _ 6 _ _ _ (FX.out _ HC38.out)
         have c7 : z38.cell? ⟨w.heap.size, 7, none⟩ = some (.int .i64 x7) := cell_of_row z38 _ 7 _ _ _ (FX.out _ HC38.out)
         have c8 : z38.cell? ⟨w.heap.size, 8, none⟩ = some (.int .i64 x8) := cell_of_row z38 _ 8 _ _ _ (FX.out _ HC38.out)
         have d0 : z38.cell? ⟨w.heap.size + 1, 0, none⟩ = some (.int .i64 y1) := cell_of_row z38 _ 0 _ _ _ (FY.out _ HC38.out)
         have d1 : z38.cell? ⟨w.heap.size + 1, 1, none⟩ = some (.int .i64 y2) := cell_of_row z38 _ 1 _ _ _ (FY.out _ HC38.out)
         have d2 : z38.cell? ⟨w.heap.size + 1, 2, none⟩ = some (.slice yA yn yc) := cell_of_row z38 _ 2 _ _ _ (FY.out _ HC38.out)
         have d3 : z38.cell? ⟨w.heap.size + 1, 3, none⟩ = some (.int .i64 y3) := cell_of_row z38 _ 3 _ _ _ (FY.out _ HC38.out)
         have d4 : z38.cell? ⟨w.heap.size + 1, 4, none⟩ = some (.int .i64 y4) := cell_of_row z38 _ 4 _ _ _ (FY.out _ HC38.out)
         have d5 : z38.cell? ⟨w.heap.size + 1, 5, none⟩ = some (.int .i64 y5) := cell_of_row z38 _ 5 _ _ _ (FY.out _ HC38.out)
         have d6 : z38.cell? ⟨w.heap.size + 1, 6, none⟩ = some (.int .i64 y6) := cell_of_row z38 _ 6 _ _ _ (FY.out _ HC38.out)
         have d7 : z38.cell? ⟨w.heap.size + 1, 7, none⟩ = some (.int .i64 y7) := cell_of_row z38 _ 7 _ _ _ (FY.out _ HC38.out)
         have d8 : z38.cell? ⟨w.heap.size + 1, 8, none⟩ = some (.int .i64 y8) := cell_of_row z38 _ 8 _ _ _ (FY.out _ HC38.out)
         cases v1
         case false =>
          have HF : Hid (rs = false) := Lib.hid (by rw [HR.out] <;> simp)
          go_wp2_with fail
          go_ret
          exact ⟨by rw [HF.out] <;> first | rfl | (simp; done), (HBW.out.trans (HC38.out.mono HBW.out.size))⟩
         case true =>
          have HF : Hid (rs = true) := Lib.hid (by rw [HR.out, GG30.out, GG31.out, GG32.out, GG33.out, GG34.out, GG35.out, GG36.out, GG37.out] <;> first | rfl | (simp; done))
          go_wp2_with fail
          go_ret
          exact ⟨by rw [HF.out] <;> first | rfl | (simp; done), (HBW.out.trans (HC38.out.mono HBW.out.size))⟩
set_option maxRecDepth 1000000 in
set_option maxHeartbeats 8000000 in
theorem sameDelta_any (x y : RDl) (w : World) (hx : x.is w (· < w.heap.size)) (hy : y.is w (· < w.heap.size)) :
  Calls Tryz.prog 90 #[.agg (RDl.enc x).toArray, .agg (RDl.enc y).toArray] w fun e w' => e = .returned (.bool (sDel x y)) ∧ Below w.heap.size w w' := by
 obtain ⟨xn, xcA, xcc, xcl, xoA, xoc, xops⟩ := x
 obtain ⟨yn, ycA, ycc, ycl, yoA, yoc, yops⟩ := y
 obtain ⟨rs, hrs⟩ : ∃ r, r = sDel ⟨xn, xcA, xcc, xcl, xoA, xoc, xops⟩ ⟨yn, ycA, ycc, ycl, yoA, yoc, yops⟩ := ⟨_, rfl⟩
 rw [← hrs]
 show Calls Tryz.prog 90 #[.agg #[.string xn, .slice xcA xcl.length xcc, .slice xoA xops.length xoc], .agg #[.string yn, .slice ycA ycl.length ycc, .slice yoA yops.length yoc]] w _
 have HR : Hid (rs = (eqS xn yn && (sameL sInt xcl ycl && sameL sFct xops yops))) := Lib.hid (by rw [hrs]; rfl)
 clear hrs
 obtain ⟨W, hW⟩ : ∃ W, W = (w.alloc (.cells #[.string xn, .slice xcA xcl.length xcc, .slice xoA xops.length xoc] 63)).alloc (.cells #[.string yn, .slice ycA ycl.length ycc, .slice yoA yops.length yoc] 63) := ⟨_, rfl⟩
 have hbW : Below w.heap.size w W := by rw [hW]; exact (Below.of_alloc _).alloc (by simp) _
 have hWs : w.heap.size + 1 < W.heap.size := by rw [hW]; simp
 have hT : W.heap[w.heap.size]? = some (.cells #[.string xn, .slice xcA xcl.length xcc, .slice xoA xops.length xoc] 63 (0, 0)) := by
  rw [hW]
  exact ((Below.of_alloc (w := w.alloc (.cells #[.string xn, .slice xcA xcl.length xcc, .slice xoA xops.length xoc] 63)) (.cells #[.string yn, .slice ycA ycl.length ycc, .slice yoA yops.length yoc] 63)).block _ (by simp)).trans (heap_alloc_new _ _)
 have hU : W.heap[w.heap.size + 1]? = some (.cells #[.string yn, .slice ycA ycl.length ycc, .slice yoA yops.length yoc] 63 (0, 0)) := by
  rw [hW]
  have h := heap_alloc_new (w.alloc (.cells #[.string xn, .slice xcA xcl.length xcc, .slice xoA xops.length xoc] 63)) (.cells #[.string yn, .slice ycA ycl.length ycc, .slice yoA yops.length yoc] 63)
  simpa using h
 have FX : Hid (∀ V, Below W.heap.size W V → V.heap[w.heap.size]? = some (.cells #[.string xn, .slice xcA xcl.length xcc, .slice xoA xops.length xoc] 63 (0, 0))) := Lib.hid (fun V hV => (hV.block _ (by omega)).trans hT)
 have FY : Hid (∀ V, Below W.heap.size W V → V.heap[w.heap.size + 1]? = some (.cells #[.string yn, .slice ycA ycl.length ycc, .slice yoA yops.length yoc] 63 (0, 0))) := Lib.hid (fun V hV => (hV.block _ hWs).trans hU)
 have HBW := Lib.hid hbW
 have HC0 : Hid (Below W.heap.size W W) := Lib.hid (Below.refl _ _)
 have HW := Lib.hid hW
 clear hT hU hbW hWs hW
 obtain ⟨v1, hv1⟩ : ∃ bo, bo = sameL sInt xcl ycl := ⟨_, rfl⟩
 have K1 := fun (V : World) (hV : Below w.heap.size w V) => eqInt_any _ _ xcl ycl V (hx.below hV).close (hy.below hV).close
 rw [← hv1] at K1 HR
 clear hv1
 obtain ⟨v2, hv2⟩ : ∃ bo, bo = sameL sFct xops yops := ⟨_, rfl⟩
 have K2 := fun (V : World) (hV : Below w.heap.size w V) => eqfFct_any _ _ xops yops V (hx.below hV).opens.1 (hy.below hV).opens.1 (fun a ha b hb U hU => sameFact_any a b U (facBelow ((hx.below hV).opens.2 a ha) hU) (facBelow ((hy.below hV).opens.2 b hb) hU))
 rw [← hv2] at K2 HR
 clear hv2
 have c0 : W.cell? ⟨w.heap.size, 0, none⟩ = some (.string xn) := cell_of_row W _ 0 _ _ _ (FX.out _ HC0.out)
 have c1 : W.cell? ⟨w.heap.size, 1, none⟩ = some (.slice xcA xcl.length xcc) := cell_of_row W _ 1 _ _ _ (FX.out _ HC0.out)
 have c2 : W.cell? ⟨w.heap.size, 2, none⟩ = some (.slice xoA xops.length xoc) := cell_of_row W _ 2 _ _ _ (FX.out _ HC0.out)
 have d0 : W.cell? ⟨w.heap.size + 1, 0, none⟩ = some (.string yn) := cell_of_row W _ 0 _ _ _ (FY.out _ HC0.out)
 have d1 : W.cell? ⟨w.heap.size + 1, 1, none⟩ = some (.slice ycA ycl.length ycc) := cell_of_row W _ 1 _ _ _ (FY.out _ HC0.out)
 have d2 : W.cell? ⟨w.heap.size + 1, 2, none⟩ = some (.slice yoA yops.length yoc) := cell_of_row W _ 2 _ _ _ (FY.out _ HC0.out)
 cases ee39 : (xn.toList == yn.toList)
 case false =>
  have gg39 : eqS xn yn = false := ee39
  have ff39 : (xn.toList != yn.toList) = true := by rw [bne, ee39]; rfl
  have HF : Hid (rs = false) := Lib.hid (by rw [HR.out, gg39] <;> simp)
  go_enter Tryz.func90, Tryz.ntmps90
  go_wp2_with fail
  try rw [← HW.out]
  go_ret
  exact ⟨by rw [HF.out] <;> first | rfl | (simp; done), (HBW.out.trans (HC0.out.mono HBW.out.size))⟩
 case true =>
  have GG39 : Hid (eqS xn yn = true) := Lib.hid ee39
  have ff39 : (xn.toList != yn.toList) = false := by rw [bne, ee39]; rfl
  have KK40 := K1 W (HBW.out.trans (HC0.out.mono HBW.out.size))
  go_enter Tryz.func90, Tryz.ntmps90
  go_wp2_with fail
  try rw [← HW.out]
  (with_reducible refine KK40.mono ?_)
  rintro _ z40 ⟨rfl, hz40⟩
  clear KK40
  have HC40 : Hid (Below W.heap.size W z40) := Lib.hid (HC0.out.trans (hz40.mono HC0.out.size))
  clear hz40
  clear c0 d0 c1 d1 c2 d2
  have c0 : z40.cell? ⟨w.heap.size, 0, none⟩ = some (.string xn) := cell_of_row z40 _ 0 _ _ _ (FX.out _ HC40.out)
  have c1 : z40.cell? ⟨w.heap.size, 1, none⟩ = some (.slice xcA xcl.length xcc) := cell_of_row z40 _ 1 _ _ _ (FX.out _ HC40.out)
  have c2 : z40.cell? ⟨w.heap.size, 2, none⟩ = some (.slice xoA xops.length xoc) := cell_of_row z40 _ 2 _ _ _ (FX.out _ HC40.out)
  have d0 : z40.cell? ⟨w.heap.size + 1, 0, none⟩ = some (.string yn) := cell_of_row z40 _ 0 _ _ _ (FY.out _ HC40.out)
  have d1 : z40.cell? ⟨w.heap.size + 1, 1, none⟩ = some (.slice ycA ycl.length ycc) := cell_of_row z40 _ 1 _ _ _ (FY.out _ HC40.out)
  have d2 : z40.cell? ⟨w.heap.size + 1, 2, none⟩ = some (.slice yoA yops.length yoc) := cell_of_row z40 _ 2 _ _ _ (FY.out _ HC40.out)
  cases v1
  case false =>
   have HF : Hid (rs = false) := Lib.hid (by rw [HR.out] <;> simp)
   go_wp2_with fail
   go_ret
   exact ⟨by rw [HF.out] <;> first | rfl | (simp; done), (HBW.out.trans (HC40.out.mono HBW.out.size))⟩
  case true =>
   have KK41 := K2 z40 (HBW.out.trans (HC40.out.mono HBW.out.size))
   go_wp2_with fail
   (with_reducible refine KK41.mono ?_)
   rintro _ z41 ⟨rfl, hz41⟩
   clear KK41
   have HC41 : Hid (Below W.heap.size W z41) := Lib.hid (HC40.out.trans (hz41.mono HC40.out.size))
   clear hz41
   clear c0 d0 c1 d1 c2 d2
   have c0 : z41.cell? ⟨w.heap.size, 0, none⟩ = some (.string xn) := cell_of_row z41 _ 0 _ _ _ (FX.out _ HC41.out)
   have c1 : z41.cell? ⟨w.heap.size, 1, none⟩ = some (.slice xcA xcl.length xcc) := cell_of_row z41 _ 1 _ _ _ (FX.out _ HC41.out)
   have c2 : z41.cell? ⟨w.heap.size, 2, none⟩ = some (.slice xoA xops.length xoc) := cell_of_row z41 _ 2 _ _ _ (FX.out _ HC41.out)
   have d0 : z41.cell? ⟨w.heap.size + 1, 0, none⟩ = some (.string yn) := cell_of_row z41 _ 0 _ _ _ (FY.out _ HC41.out)
   have d1 : z41.cell? ⟨w.heap.size + 1, 1, none⟩ = some (.slice ycA ycl.length ycc) := cell_of_row z41 _ 1 _ _ _ (FY.out _ HC41.out)
   have d2 : z41.cell? ⟨w.heap.size + 1, 2, none⟩ = some (.slice yoA yops.length yoc) := cell_of_row z41 _ 2 _ _ _ (FY.out _ HC41.out)
   cases v2
   case false =>
    have HF : Hid (rs = false) := Lib.hid (by rw [HR.out] <;> simp)
    go_wp2_with fail
    go_ret
    exact ⟨by rw [HF.out] <;> first | rfl | (simp; done), (HBW.out.trans (HC41.out.mono HBW.out.size))⟩
   case true =>
    have HF : Hid (rs = true) := Lib.hid (by rw [HR.out, GG39.out] <;> first | rfl | (simp; done))
    go_wp2_with fail
    go_ret
    exact ⟨by rw [HF.out] <;> first | rfl | (simp; done), (HBW.out.trans (HC41.out.mono HBW.out.size))⟩
set_option maxRecDepth 1000000 in
set_option maxHeartbeats 8000000 in
theorem sameTvs_any (x y : RTv) (w : World) (hx : x.is w (· < w.heap.size)) (hy : y.is w (· < w.heap.size)) :
  Calls Tryz.prog 100 #[.agg (RTv.enc x).toArray, .agg (RTv.enc y).toArray] w fun e w' => e = .returned (.bool (sTv x y)) ∧ Below w.heap.size w w' := by
 obtain ⟨xt, xA, xc, xv⟩ := x
 obtain ⟨yt, yA, yc, yv⟩ := y
 obtain ⟨rs, hrs⟩ : ∃ r, r = sTv ⟨xt, xA, xc, xv⟩ ⟨yt, yA, yc, yv⟩ := ⟨_, rfl⟩
 rw [← hrs]
 show Calls Tryz.prog 100 #[.agg #[.string xt, .slice xA xv.length xc], .agg #[.string yt, .slice yA yv.length yc]] w _
 have HR : Hid (rs = (eqS xt yt && sameL sVer xv yv)) := Lib.hid (by rw [hrs]; rfl)
 clear hrs
 obtain ⟨W, hW⟩ : ∃ W, W = (w.alloc (.cells #[.string xt, .slice xA xv.length xc] 165)).alloc (.cells #[.string yt, .slice yA yv.length yc] 165) := ⟨_, rfl⟩
 have hbW : Below w.heap.size w W := by rw [hW]; exact (Below.of_alloc _).alloc (by simp) _
 have hWs : w.heap.size + 1 < W.heap.size := by rw [hW]; simp
 have hT : W.heap[w.heap.size]? = some (.cells #[.string xt, .slice xA xv.length xc] 165 (0, 0)) := by
  rw [hW]
  exact ((Below.of_alloc (w := w.alloc (.cells #[.string xt, .slice xA xv.length xc] 165)) (.cells #[.string yt, .slice yA yv.length yc] 165)).block _ (by simp)).trans (heap_alloc_new _ _)
 have hU : W.heap[w.heap.size + 1]? = some (.cells #[.string yt, .slice yA yv.length yc] 165 (0, 0)) := by
  rw [hW]
  have h := heap_alloc_new (w.alloc (.cells #[.string xt, .slice xA xv.length xc] 165)) (.cells #[.string yt, .slice yA yv.length yc] 165)
  simpa using h
 have FX : Hid (∀ V, Below W.heap.size W V → V.heap[w.heap.size]? = some (.cells #[.string xt, .slice xA xv.length xc] 165 (0, 0))) := Lib.hid (fun V hV => (hV.block _ (by omega)).trans hT)
 have FY : Hid (∀ V, Below W.heap.size W V → V.heap[w.heap.size + 1]? = some (.cells #[.string yt, .slice yA yv.length yc] 165 (0, 0))) := Lib.hid (fun V hV => (hV.block _ hWs).trans hU)
 have HBW := Lib.hid hbW
 have HC0 : Hid (Below W.heap.size W W) := Lib.hid (Below.refl _ _)
 have HW := Lib.hid hW
 clear hT hU hbW hWs hW
 obtain ⟨v1, hv1⟩ : ∃ bo, bo = sameL sVer xv yv := ⟨_, rfl⟩
 have K1 := fun (V : World) (hV : Below w.heap.size w V) => eqfVer_any _ _ xv yv V (RdVs.below hx hV).1 (RdVs.below hy hV).1 (fun a ha b hb U hU => sameVersion_any a b U (verBelow ((RdVs.below hx hV).2 a ha) hU) (verBelow ((RdVs.below hy hV).2 b hb) hU))
 rw [← hv1] at K1 HR
 clear hv1
 have c0 : W.cell? ⟨w.heap.size, 0, none⟩ = some (.string xt) := cell_of_row W _ 0 _ _ _ (FX.out _ HC0.out)
 have c1 : W.cell? ⟨w.heap.size, 1, none⟩ = some (.slice xA xv.length xc) := cell_of_row W _ 1 _ _ _ (FX.out _ HC0.out)
 have d0 : W.cell? ⟨w.heap.size + 1, 0, none⟩ = some (.string yt) := cell_of_row W _ 0 _ _ _ (FY.out _ HC0.out)
 have d1 : W.cell? ⟨w.heap.size + 1, 1, none⟩ = some (.slice yA yv.length yc) := cell_of_row W _ 1 _ _ _ (FY.out _ HC0.out)
 cases ee42 : (xt.toList == yt.toList)
 case false =>
  have gg42 : eqS xt yt = false := ee42
  have ff42 : (xt.toList != yt.toList) = true := by rw [bne, ee42]; rfl
  have HF : Hid (rs = false) := Lib.hid (by rw [HR.out, gg42] <;> simp)
  go_enter Tryz.func100, Tryz.ntmps100
  go_wp2_with fail
  try rw [← HW.out]
  go_ret
  exact ⟨by rw [HF.out] <;> first | rfl | (simp; done), (HBW.out.trans (HC0.out.mono HBW.out.size))⟩
 case true =>
  have GG42 : Hid (eqS xt yt = true) := Lib.hid ee42
  have ff42 : (xt.toList != yt.toList) = false := by rw [bne, ee42]; rfl
  have KK43 := K1 W (HBW.out.trans (HC0.out.mono HBW.out.size))
  go_enter Tryz.func100, Tryz.ntmps100
  go_wp2_with fail
  try rw [← HW.out]
  (with_reducible refine KK43.mono ?_)
  rintro _ z43 ⟨rfl, hz43⟩
  clear KK43
  have HC43 : Hid (Below W.heap.size W z43) := Lib.hid (HC0.out.trans (hz43.mono HC0.out.size))
  clear hz43
  clear c0 d0 c1 d1
  have c0 : z43.cell? ⟨w.heap.size, 0, none⟩ = some (.string xt) := cell_of_row z43 _ 0 _ _ _ (FX.out _ HC43.out)
  have c1 : z43.cell? ⟨w.heap.size, 1, none⟩ = some (.slice xA xv.length xc) := cell_of_row z43 _ 1 _ _ _ (FX.out _ HC43.out)
  have d0 : z43.cell? ⟨w.heap.size + 1, 0, none⟩ = some (.string yt) := cell_of_row z43 _ 0 _ _ _ (FY.out _ HC43.out)
  have d1 : z43.cell? ⟨w.heap.size + 1, 1, none⟩ = some (.slice yA yv.length yc) := cell_of_row z43 _ 1 _ _ _ (FY.out _ HC43.out)
  cases v1
  case false =>
   have HF : Hid (rs = false) := Lib.hid (by rw [HR.out] <;> simp)
   go_wp2_with fail
   go_ret
   exact ⟨by rw [HF.out] <;> first | rfl | (simp; done), (HBW.out.trans (HC43.out.mono HBW.out.size))⟩
  case true =>
   have HF : Hid (rs = true) := Lib.hid (by rw [HR.out, GG42.out] <;> first | rfl | (simp; done))
   go_wp2_with fail
   go_ret
   exact ⟨by rw [HF.out] <;> first | rfl | (simp; done), (HBW.out.trans (HC43.out.mono HBW.out.size))⟩
end Go.Proofs.YtbfdegkickjbpaaGreat
