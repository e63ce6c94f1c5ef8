/-
 SmF
-/
import Derived.Test.YtbfdegkickjbpaaGreatSSmE
namespace Go.Proofs.YtbfdegkickjbpaaGreat
open Go.RowKit Go.Lib Go.IntWalk Go.Sort Go.Shelf
set_option maxRecDepth 1000000 in
set_option maxHeartbeats 8000000 in
theorem recSame_any (x y : RCm) (w : World) (hx : x.is w (· < w.heap.size)) (hy : y.is w (· < w.heap.size)) (kx : ∀ n ∈ x.ents, ∀ e ∈ n.create.chks, exAll w (· < w.heap.size) e) (ky : ∀ n ∈ y.ents, ∀ e ∈ n.create.chks, exAll w (· < w.heap.size) e) :
  Calls Tryz.prog 21 #[.agg (RCm.enc x).toArray, .agg (RCm.enc y).toArray] w fun e w' => e = .returned (.bool (sCm x y)) ∧ Below w.heap.size w w' := by
 obtain ⟨xtx, xtm, xwl, xfi, xeA, xeC, xents, xdA, xdC, xdels, xpA, xpC, xpla, xrA, xrC, xrel, xqA, xqC, xpol, xhA, xhC, xhor⟩ := x
 obtain ⟨ytx, ytm, ywl, yfi, yeA, yeC, yents, ydA, ydC, ydels, ypA, ypC, ypla, yrA, yrC, yrel, yqA, yqC, ypol, yhA, yhC, yhor⟩ := y
 obtain ⟨rs, hrs⟩ : ∃ r, r = sCm ⟨xtx, xtm, xwl, xfi, xeA, xeC, xents, xdA, xdC, xdels, xpA, xpC, xpla, xrA, xrC, xrel, xqA, xqC, xpol, xhA, xhC, xhor⟩ ⟨ytx, ytm, ywl, yfi, yeA, yeC, yents, ydA, ydC, ydels, ypA, ypC, ypla, yrA, yrC, yrel, yqA, yqC, ypol, yhA, yhC, yhor⟩ := ⟨_, rfl⟩
 rw [← hrs]
 show Calls Tryz.prog 21 #[.agg #[.int .i64 xtx, .int .i64 xtm, .int .i64 xwl, .int .i64 xfi, .slice xeA xents.length xeC, .slice xdA xdels.length xdC, .slice xpA xpla.length xpC, .slice xrA xrel.length xrC, .slice xqA xpol.length xqC, .slice xhA xhor.length xhC], .agg #[.int .i64 ytx, .int .i64 ytm, .int .i64 ywl, .int .i64 yfi, .slice yeA yents.length yeC, .slice ydA ydels.length ydC, .slice ypA ypla.length ypC, .slice yrA yrel.length yrC, .slice yqA ypol.length yqC, .slice yhA yhor.length yhC]] w _
 have HR : Hid (rs = (decide (xtx = ytx) && (decide (xtm = ytm) && (decide (xwl = ywl) && (decide (xfi = yfi) && (sameL sEnt xents yents && (sameL sDel xdels ydels && (sameL sHld xpla ypla && (sameL eqS xrel yrel && (sameL sPol xpol ypol && (sameL sHor xhor yhor))))))))))) := Lib.hid (by rw [hrs]; rfl)
 clear hrs
 obtain ⟨W, hW⟩ : ∃ W, W = (w.alloc (.cells #[.int .i64 xtx, .int .i64 xtm, .int .i64 xwl, .int .i64 xfi, .slice xeA xents.length xeC, .slice xdA xdels.length xdC, .slice xpA xpla.length xpC, .slice xrA xrel.length xrC, .slice xqA xpol.length xqC, .slice xhA xhor.length xhC] 29)).alloc (.cells #[.int .i64 ytx, .int .i64 ytm, .int .i64 ywl, .int .i64 yfi, .slice yeA yents.length yeC, .slice ydA ydels.length ydC, .slice ypA ypla.length ypC, .slice yrA yrel.length yrC, .slice yqA ypol.length yqC, .slice yhA yhor.length yhC] 29) := ⟨_, rfl⟩
 have hbW : Below w.heap.size w W := by rw [hW]; exact (Below.of_alloc _).alloc (by simp) _
 have hWs : w.heap.size + 1 < W.heap.size := by rw [hW]; simp
 have hT : W.heap[w.heap.size]? = some (.cells #[.int .i64 xtx, .int .i64 xtm, .int .i64 xwl, .int .i64 xfi, .slice xeA xents.length xeC, .slice xdA xdels.length xdC, .slice xpA xpla.length xpC, .slice xrA xrel.length xrC, .slice xqA xpol.length xqC, .slice xhA xhor.length xhC] 29 (0, 0)) := by
  rw [hW]
  exact ((Below.of_alloc (w := w.alloc (.cells #[.int .i64 xtx, .int .i64 xtm, .int .i64 xwl, .int .i64 xfi, .slice xeA xents.length xeC, .slice xdA xdels.length xdC, .slice xpA xpla.length xpC, .slice xrA xrel.length xrC, .slice xqA xpol.length xqC, .slice xhA xhor.length xhC] 29)) (.cells #[.int .i64 ytx, .int .i64 ytm, .int .i64 ywl, .int .i64 yfi, .slice yeA yents.length yeC, .slice ydA ydels.length ydC, .slice ypA ypla.length ypC, .slice yrA yrel.length yrC, .slice yqA ypol.length yqC, .slice yhA yhor.length yhC] 29)).block _ (by simp)).trans (heap_alloc_new _ _)
 have hU : W.heap[w.heap.size + 1]? = some (.cells #[.int .i64 ytx, .int .i64 ytm, .int .i64 ywl, .int .i64 yfi, .slice yeA yents.length yeC, .slice ydA ydels.length ydC, .slice ypA ypla.length ypC, .slice yrA yrel.length yrC, .slice yqA ypol.length yqC, .slice yhA yhor.length yhC] 29 (0, 0)) := by
  rw [hW]
  have h := heap_alloc_new (w.alloc (.cells #[.int .i64 xtx, .int .i64 xtm, .int .i64 xwl, .int .i64 xfi, .slice xeA xents.length xeC, .slice xdA xdels.length xdC, .slice xpA xpla.length xpC, .slice xrA xrel.length xrC, .slice xqA xpol.length xqC, .slice xhA xhor.length xhC] 29)) (.cells #[.int .i64 ytx, .int .i64 ytm, .int .i64 ywl, .int .i64 yfi, .slice yeA yents.length yeC, .slice ydA ydels.length ydC, .slice ypA ypla.length ypC, .slice yrA yrel.length yrC, .slice yqA ypol.length yqC, .slice yhA yhor.length yhC] 29)
  simpa using h
 have FX : Hid (∀ V, Below W.heap.size W V → V.heap[w.heap.size]? = some (.cells #[.int .i64 xtx, .int .i64 xtm, .int .i64 xwl, .int .i64 xfi, .slice xeA xents.length xeC, .slice xdA xdels.length xdC, .slice xpA xpla.length xpC, .slice xrA xrel.length xrC, .slice xqA xpol.length xqC, .slice xhA xhor.length xhC] 29 (0, 0))) := Lib.hid (fun V hV => (hV.block _ (by omega)).trans hT)
 have FY : Hid (∀ V, Below W.heap.size W V → V.heap[w.heap.size + 1]? = some (.cells #[.int .i64 ytx, .int .i64 ytm, .int .i64 ywl, .int .i64 yfi, .slice yeA yents.length yeC, .slice ydA ydels.length ydC, .slice ypA ypla.length ypC, .slice yrA yrel.length yrC, .slice yqA ypol.length yqC, .slice yhA yhor.length yhC] 29 (0, 0))) := Lib.hid (fun V hV => (hV.block _ hWs).trans hU)
 have HBW := Lib.hid hbW
 have HC0 : Hid (Below W.heap.size W W) := Lib.hid (Below.refl _ _)
 have HW := Lib.hid hW
 clear hT hU hbW hWs hW
 obtain ⟨v0, hv0⟩ : ∃ bo, bo = sameL sEnt xents yents := ⟨_, rfl⟩
 have K0 := fun (V : World) (hV : Below w.heap.size w V) => eqfEnt_any _ _ xents yents V (hx.below hV).ents (hy.below hV).ents (fun a ha b hb U hU => sameEntry_any a b U (((hx.below hV).entI a ha).below hU) (((hy.below hV).entI b hb).below hU) (fun e he => ((kx a ha e he).blw hV).blw hU) (fun e he => ((ky b hb e he).blw hV).blw hU))
 rw [← hv0] at K0 HR
 clear hv0
 obtain ⟨v1, hv1⟩ : ∃ bo, bo = sameL sDel xdels ydels := ⟨_, rfl⟩
 have K1 := fun (V : World) (hV : Below w.heap.size w V) => eqfDel_any _ _ xdels ydels V (hx.below hV).dels (hy.below hV).dels (fun a ha b hb U hU => sameDelta_any a b U (((hx.below hV).delI a ha).below hU) (((hy.below hV).delI b hb).below hU))
 rw [← hv1] at K1 HR
 clear hv1
 obtain ⟨v2, hv2⟩ : ∃ bo, bo = sameL sHld xpla ypla := ⟨_, rfl⟩
 have K2 := fun (V : World) (hV : Below w.heap.size w V) => eqHld_any _ _ xpla ypla V (hx.below hV).pla (hy.below hV).pla
 rw [← hv2] at K2 HR
 clear hv2
 obtain ⟨v3, hv3⟩ : ∃ bo, bo = sameL eqS xrel yrel := ⟨_, rfl⟩
 have K3 := fun (V : World) (hV : Below w.heap.size w V) => eqStr_any _ _ xrel yrel V (hx.below hV).rel (hy.below hV).rel
 rw [← hv3] at K3 HR
 clear hv3
 obtain ⟨v4, hv4⟩ : ∃ bo, bo = sameL sPol xpol ypol := ⟨_, rfl⟩
 have K4 := fun (V : World) (hV : Below w.heap.size w V) => eqPol_any _ _ xpol ypol V (hx.below hV).pol (hy.below hV).pol
 rw [← hv4] at K4 HR
 clear hv4
 obtain ⟨v5, hv5⟩ : ∃ bo, bo = sameL sHor xhor yhor := ⟨_, rfl⟩
 have K5 := fun (V : World) (hV : Below w.heap.size w V) => eqHor_any _ _ xhor yhor V (hx.below hV).hor (hy.below hV).hor
 rw [← hv5] at K5 HR
 clear hv5
 have c0 : W.cell? ⟨w.heap.size, 0, none⟩ = some (.int .i64 xtx) := cell_of_row W _ 0 _ _ _ (FX.out _ HC0.out)
 have c1 : W.cell? ⟨w.heap.size, 1, none⟩ = some (.int .i64 xtm) := cell_of_row W _ 1 _ _ _ (FX.out _ HC0.out)
 have c2 : W.cell? ⟨w.heap.size, 2, none⟩ = some (.int .i64 xwl) := cell_of_row W _ 2 _ _ _ (FX.out _ HC0.out)
 have c3 : W.cell? ⟨w.heap.size, 3, none⟩ = some (.int .i64 xfi) := cell_of_row W _ 3 _ _ _ (FX.out _ HC0.out)
 have c4 : W.cell? ⟨w.heap.size, 4, none⟩ = some (.slice xeA xents.length xeC) := cell_of_row W _ 4 _ _ _ (FX.out _ HC0.out)
 have c5 : W.cell? ⟨w.heap.size, 5, none⟩ = some (.slice xdA xdels.length xdC) := cell_of_row W _ 5 _ _ _ (FX.out _ HC0.out)
 have c6 : W.cell? ⟨w.heap.size, 6, none⟩ = some (.slice xpA xpla.length xpC) := cell_of_row W _ 6 _ _ _ (FX.out _ HC0.out)
 have c7 : W.cell? ⟨w.heap.size, 7, none⟩ = some (.slice xrA xrel.length xrC) := cell_of_row W _ 7 _ _ _ (FX.out _ HC0.out)
 have c8 : W.cell? ⟨w.heap.size, 8, none⟩ = some (.slice xqA xpol.length xqC) := cell_of_row W _ 8 _ _ _ (FX.out _ HC0.out)
 have c9 : W.cell? ⟨w.heap.size, 9, none⟩ = some (.slice xhA xhor.length xhC) := cell_of_row W _ 9 _ _ _ (FX.out _ HC0.out)
 have d0 : W.cell? ⟨w.heap.size + 1, 0, none⟩ = some (.int .i64 ytx) := cell_of_row W _ 0 _ _ _ (FY.out _ HC0.out)
 have d1 : W.cell? ⟨w.heap.size + 1, 1, none⟩ = some (.int .i64 ytm) := cell_of_row W _ 1 _ _ _ (FY.out _ HC0.out)
 have d2 : W.cell? ⟨w.heap.size + 1, 2, none⟩ = some (.int .i64 ywl) := cell_of_row W _ 2 _ _ _ (FY.out _ HC0.out)
 have d3 : W.cell? ⟨w.heap.size + 1, 3, none⟩ = some (.int .i64 yfi) := cell_of_row W _ 3 _ _ _ (FY.out _ HC0.out)
 have d4 : W.cell? ⟨w.heap.size + 1, 4, none⟩ = some (.slice yeA yents.length yeC) := cell_of_row W _ 4 _ _ _ (FY.out _ HC0.out)
 have d5 : W.cell? ⟨w.heap.size + 1, 5, none⟩ = some (.slice ydA ydels.length ydC) := cell_of_row W _ 5 _ _ _ (FY.out _ HC0.out)
 have d6 : W.cell? ⟨w.heap.size + 1, 6, none⟩ = some (.slice ypA ypla.length ypC) := cell_of_row W _ 6 _ _ _ (FY.out _ HC0.out)
 have d7 : W.cell? ⟨w.heap.size + 1, 7, none⟩ = some (.slice yrA yrel.length yrC) := cell_of_row W _ 7 _ _ _ (FY.out _ HC0.out)
 have d8 : W.cell? ⟨w.heap.size + 1, 8, none⟩ = some (.slice yqA ypol.length yqC) := cell_of_row W _ 8 _ _ _ (FY.out _ HC0.out)
 have d9 : W.cell? ⟨w.heap.size + 1, 9, none⟩ = some (.slice yhA yhor.length yhC) := cell_of_row W _ 9 _ _ _ (FY.out _ HC0.out)
 by_cases tt1 : xtx = ytx
 case neg =>
  have gg1 : decide (xtx = ytx) = false := decide_eq_false tt1
  have ee1 : (xtx == ytx) = false := by simpa using tt1
  have ff1 : (xtx != ytx) = true := by simpa using tt1
  have HF : Hid (rs = false) := Lib.hid (by rw [HR.out, gg1] <;> simp)
  go_enter Tryz.func21, Tryz.ntmps21
  go_wp2_with fail
  try rw [← HW.out]
  go_ret
  exact ⟨by rw [HF.out] <;> first | rfl | (simp; done), (HBW.out.trans (HC0.out.mono HBW.out.size))⟩
 case pos =>
  have GG1 : Hid (decide (xtx = ytx) = true) := Lib.hid (decide_eq_true tt1)
  have ee1 : (xtx == ytx) = true := by simpa using tt1
  have ff1 : (xtx != ytx) = false := by simpa using tt1
  clear tt1
  by_cases tt2 : xtm = ytm
  case neg =>
   have gg2 : decide (xtm = ytm) = false := decide_eq_false tt2
   have ee2 : (xtm == ytm) = false := by simpa using tt2
   have ff2 : (xtm != ytm) = true := by simpa using tt2
   have HF : Hid (rs = false) := Lib.hid (by rw [HR.out, gg2] <;> simp)
   go_enter Tryz.func21, Tryz.ntmps21
   go_wp2_with fail
   try rw [← HW.out]
   go_ret
   exact ⟨by rw [HF.out] <;> first | rfl | (simp; done), (HBW.out.trans (HC0.out.mono HBW.out.size))⟩
  case pos =>
   have GG2 : Hid (decide (xtm = ytm) = true) := Lib.hid (decide_eq_true tt2)
   have ee2 : (xtm == ytm) = true := by simpa using tt2
   have ff2 : (xtm != ytm) = false := by simpa using tt2
   clear tt2
   by_cases tt3 : xwl = ywl
   case neg =>
    have gg3 : decide (xwl = ywl) = false := decide_eq_false tt3
    have ee3 : (xwl == ywl) = false := by simpa using tt3
    have ff3 : (xwl != ywl) = true := by simpa using tt3
    have HF : Hid (rs = false) := Lib.hid (by rw [HR.out, gg3] <;> simp)
    go_enter Tryz.func21, Tryz.ntmps21
    go_wp2_with fail
    try rw [← HW.out]
    go_ret
    exact ⟨by rw [HF.out] <;> first | rfl | (simp; done), (HBW.out.trans (HC0.out.mono HBW.out.size))⟩
   case pos =>
    have GG3 : Hid (decide (xwl = ywl) = true) := Lib.hid (decide_eq_true tt3)
    have ee3 : (xwl == ywl) = true := by simpa using tt3
    have ff3 : (xwl != ywl) = false := by simpa using tt3
    clear tt3
    by_cases tt4 : xfi = yfi
    case neg =>
     have gg4 : decide (xfi = yfi) = false := decide_eq_false tt4
     have ee4 : (xfi == yfi) = false := by simpa using tt4
     have ff4 : (xfi != yfi) = true := by simpa using tt4
     have HF : Hid (rs = false) := Lib.hid (by rw [HR.out, gg4] <;> simp)
     go_enter Tryz.func21, Tryz.ntmps21
     go_wp2_with fail
     try rw [← HW.out]
     go_ret
     exact ⟨by rw [HF.out] <;> first | rfl | (simp; done), (HBW.out.trans (HC0.out.mono HBW.out.size))⟩
    case pos =>
     have GG4 : Hid (decide (xfi = yfi) = true) := Lib.hid (decide_eq_true tt4)
     have ee4 : (xfi == yfi) = true := by simpa using tt4
     have ff4 : (xfi != yfi) = false := by simpa using tt4
     clear tt4
     have KK5 := K0 W (HBW.out.trans (HC0.out.mono HBW.out.size))
     go_enter Tryz.func21, Tryz.ntmps21
     go_wp2_with fail
     try rw [← HW.out]
     (with_reducible refine KK5.mono ?_)
     rintro _ z5 ⟨rfl, hz5⟩
     clear KK5
     have HC5 : Hid (Below W.heap.size W z5) := Lib.hid (HC0.out.trans (hz5.mono HC0.out.size))
     clear hz5
     clear c0 d0 c1 d1 c2 d2 c3 d3 c4 d4 c5 d5 c6 d6 c7 d7 c8 d8 c9 d9
     have c0 : z5.cell? ⟨w.heap.size, 0, none⟩ = some (.int .i64 xtx) := cell_of_row z5 _ 0 _ _ _ (FX.out _ HC5.out)
     have c1 : z5.cell? ⟨w.heap.size, 1, none⟩ = some (.int .i64 xtm) := cell_of_row z5 _ 1 _ _ _ (FX.out _ HC5.out)
     have c2 : z5.cell? ⟨w.heap.size, 2, none⟩ = some (.int .i64 xwl) := cell_of_row z5 _ 2 _ _ _ (FX.out _ HC5.out)
     have c3 : z5.cell? ⟨w.heap.size, 3, none⟩ = some (.int .i64 xfi) := cell_of_row z5 _ 3 _ _ _ (FX.out _ HC5.out)
     have c4 : z5.cell? ⟨w.heap.size, 4, none⟩ = some (.slice xeA xents.length xeC) := cell_of_row z5 _ 4 _ _ _ (FX.out _ HC5.out)
     have c5 : z5.cell? ⟨w.heap.size, 5, none⟩ = some (.slice xdA xdels.length xdC) := cell_of_row z5 _ 5 _ _ _ (FX.out _ HC5.out)
     have c6 : z5.cell? ⟨w.heap.size, 6, none⟩ = some (.slice xpA xpla.length xpC) := cell_of_row z5 _ 6 _ _ _ (FX.out _ HC5.out)
     have c7 : z5.cell? ⟨w.heap.size, 7, none⟩ = some (.slice xrA xrel.length xrC) := cell_of_row z5 _ 7 _ _ _ (FX.out _ HC5.out)
     have c8 : z5.cell? ⟨w.heap.size, 8, none⟩ = some (.slice xqA xpol.length xqC) := cell_of_row z5 _ 8 _ _ _ (FX.out _ HC5.out)
     have c9 : z5.cell? ⟨w.heap.size, 9, none⟩ = some (.slice xhA xhor.length xhC) := cell_of_row z5 _ 9 _ _ _ (FX.out _ HC5.out)
     have d0 : z5.cell? ⟨w.heap.size + 1, 0, none⟩ = some (.int .i64 ytx) := cell_of_row z5 _ 0 _ _ _ (FY.out _ HC5.out)
     have d1 : z5.cell? ⟨w.heap.size + 1, 1, none⟩ = some (.int .i64 ytm) := cell_of_row z5 _ 1 _ _ _ (FY.out _ HC5.out)
     have d2 : z5.cell? ⟨w.heap.size + 1, 2, none⟩ = some (.int .i64 ywl) := cell_of_row z5 _ 2 _ _ _ (FY.out _ HC5.out)
     have d3 : z5.cell? ⟨w.heap.size + 1, 3, none⟩ = some (.int .i64 yfi) := cell_of_row z5 _ 3 _ _ _ (FY.out _ HC5.out)
     have d4 : z5.cell? ⟨w.heap.size + 1, 4, none⟩ = some (.slice yeA yents.length yeC) := cell_of_row z5 _ 4 _ _ _ (FY.out _ HC5.out)
     have d5 : z5.cell? ⟨w.heap.size + 1, 5, none⟩ = some (.slice ydA ydels.length ydC) := cell_of_row z5 _ 5 _ _ _ (FY.out _ HC5.out)
     have d6 : z5.cell? ⟨w.heap.size + 1, 6, none⟩ = some (.slice ypA ypla.length ypC) := cell_of_row z5 _ 6 _ _ _ (FY.out _ HC5.out)
     have d7 : z5.cell? ⟨w.heap.size + 1, 7, none⟩ = some (.slice yrA yrel.length yrC) := cell_of_row z5 _ 7 _ _ _ (FY.out _ HC5.out)
     have d8 : z5.cell? ⟨w.heap.size + 1, 8, none⟩ = some (.slice yqA ypol.length yqC) := cell_of_row z5 _ 8 _ _ _ (FY.out _ HC5.out)
     have d9 : z5.cell? ⟨w.heap.size + 1, 9, none⟩ = some (.slice yhA yhor.length yhC) := cell_of_row z5 _ 9 _ _ _ (FY.out _ HC5.out)
     cases v0
     case false =>
      have HF : Hid (rs = false) := Lib.hid (by rw [HR.out] <;> simp)
      go_wp2_with fail
      go_ret
      exact ⟨by rw [HF.out] <;> first | rfl | (simp; done), (HBW.out.trans (HC5.out.mono HBW.out.size))⟩
     case true =>
      have KK6 := K1 z5 (HBW.out.trans (HC5.out.mono HBW.out.size))
      go_wp2_with fail
      (with_reducible refine KK6.mono ?_)
      rintro _ z6 ⟨rfl, hz6⟩
      clear KK6
      have HC6 : Hid (Below W.heap.size W z6) := Lib.hid (HC5.out.trans (hz6.mono HC5.out.size))
      clear hz6
      clear c0 d0 c1 d1 c2 d2 c3 d3 c4 d4 c5 d5 c6 d6 c7 d7 c8 d8 c9 d9
      have c0 : z6.cell? ⟨w.heap.size, 0, none⟩ = some (.int .i64 xtx) := cell_of_row z6 _ 0 _ _ _ (FX.out _ HC6.out)
      have c1 : z6.cell? ⟨w.heap.size, 1, none⟩ = some (.int .i64 xtm) := cell_of_row z6 _ 1 _ _ _ (FX.out _ HC6.out)
      have c2 : z6.cell? ⟨w.heap.size, 2, none⟩ = some (.int .i64 xwl) := cell_of_row z6 _ 2 _ _ _ (FX.out _ HC6.out)
      have c3 : z6.cell? ⟨w.heap.size, 3, none⟩ = some (.int .i64 xfi) := cell_of_row z6 _ 3 _ _ _ (FX.out _ HC6.out)
      have c4 : z6.cell? ⟨w.heap.size, 4, none⟩ = some (.slice xeA xents.length xeC) := cell_of_row z6 _ 4 _ _ _ (FX.out _ HC6.out)
      have c5 : z6.cell? ⟨w.heap.size, 5, none⟩ = some (.slice xdA xdels.length xdC) := cell_of_row z6 _ 5 _ _ _ (FX.out _ HC6.out)
      have c6 : z6.cell? ⟨w.heap.size, 6, none⟩ = some (.slice xpA xpla.length xpC) := cell_of_row z6 _ 6 _ _ _ (FX.out _ HC6.out)
      have c7 : z6.cell? ⟨w.heap.size, 7, none⟩ = some (.slice xrA xrel.length xrC) := cell_of_row z6 _ 7 _ _ _ (FX.out _ HC6.out)
      have c8 : z6.cell? ⟨w.heap.size, 8, none⟩ = some (.slice xqA xpol.length xqC) := cell_of_row z6 _ 8 _ _ _ (FX.out _ HC6.out)
      have c9 : z6.cell? ⟨w.heap.size, 9, none⟩ = some (.slice xhA xhor.length xhC) := cell_of_row z6 _ 9 _ _ _ (FX.out _ HC6.out)
      have d0 : z6.cell? ⟨w.heap.size + 1, 0, none⟩ = some (.int .i64 ytx) := cell_of_row z6 _ 0 _ _ _ (FY.out _ HC6.out)
      have d1 : z6.cell? ⟨w.heap.size + 1, 1, none⟩ = some (.int .i64 ytm) := cell_of_row z6 _ 1 _ _ _ (FY.out _ HC6.out)
      have d2 : z6.cell? ⟨w.heap.size + 1, 2, none⟩ = some (.int .i64 ywl) := cell_of_row z6 _ 2 _ _ _ (FY.out _ HC6.out)
      have d3 : z6.cell? ⟨w.heap.size + 1, 3, none⟩ = some (.int .i64 yfi) := cell_of_row z6 _ 3 _ _ _ (FY.out _ HC6.out)
      have d4 : z6.cell? ⟨w.heap.size + 1, 4, none⟩ = some (.slice yeA yents.length yeC) := cell_of_row z6 _ 4 _ _ _ (FY.out _ HC6.out)
      have d5 : z6.cell? ⟨w.heap.size + 1, 5, none⟩ = some (.slice ydA ydels.length ydC) := cell_of_row z6 _ 5 _ _ _ (FY.out _ HC6.out)
      have d6 : z6.cell? ⟨w.heap.size + 1, 6, none⟩ = some (.slice ypA ypla.length ypC) := cell_of_row z6 _ 6 _ _ _ (FY.out _ HC6.out)
      have d7 : z6.cell? ⟨w.heap.size + 1, 7, none⟩ = some (.slice yrA yrel.length yrC) := cell_of_row z6 _ 7 _ _ _ (FY.out _ HC6.out)
      have d8 : z6.cell? ⟨w.heap.size + 1, 8, none⟩ = some (.slice yqA ypol.length yqC) := cell_of_row z6 _ 8 _ _ _ (FY.out _ HC6.out)
      have d9 : z6.cell? ⟨w.heap.size + 1, 9, none⟩ = some (.slice yhA yhor.length yhC) := cell_of_row z6 _ 9 _ _ _ (FY.out _ HC6.out)
      cases v1
      case false =>
       have HF : Hid (rs = false) := Lib.hid (by rw [HR.out] <;> simp)
       go_wp2_with fail
       go_ret
       exact ⟨by rw [HF.out] <;> first | rfl | (simp; done), (HBW.out.trans (HC6.out.mono HBW.out.size))⟩
      case true =>
       have KK7 := K2 z6 (HBW.out.trans (HC6.out.mono HBW.out.size))
       go_wp2_with fail
       (with_reducible refine KK7.mono ?_)
       rintro _ z7 ⟨rfl, hz7⟩
       clear KK7
       have HC7 : Hid (Below W.heap.size W z7) := Lib.hid (HC6.out.trans (hz7.mono HC6.out.size))
       clear hz7
       clear c0 d0 c1 d1 c2 d2 c3 d3 c4 d4 c5 d5 c6 d6 c7 d7 c8 d8 c9 d9
       have c0 : z7.cell? ⟨w.heap.size, 0, none⟩ = some (.int .i64 xtx) := cell_of_row z7 _ 0 _ _ _ (FX.out _ HC7.out)
       have c1 : z7.cell? ⟨w.heap.size, 1, none⟩ = some (.int .i64 xtm) := cell_of_row z7 _ 1 _ _ _ (FX.out _ HC7.out)
       have c2 : z7.cell? ⟨w.heap.size, 2, none⟩ = some (.int .i64 xwl) := cell_of_row z7 _ 2 _ _ _ (FX.out _ HC7.out)
       have c3 : z7.cell? ⟨w.heap.size, 3, none⟩ = some (.int .i64 xfi) := cell_of_row z7 _ 3 _ _ _ (FX.out _ HC7.out)
       have c4 : z7.cell? ⟨w.heap.size, 4, none⟩ = some (.slice xeA xents.length xeC) := cell_of_row z7 _ 4 _ _ _ (FX.out _ HC7.out)
       have c5 : z7.cell? ⟨w.heap.size, 5, none⟩ = some (.slice xdA xdels.length xdC) := cell_of_row z7 _ 5 _ _ _ (FX.out _ HC7.out)
       have c6 : z7.cell? ⟨w.heap.size, 6, none⟩ = some (.slice xpA xpla.length xpC) := cell_of_row z7 _ 6 _ _ _ (FX.out _ HC7.out)
       have c7 : z7.cell? ⟨w.heap.size, 7, none⟩ = some (.slice xrA xrel.length xrC) := cell_of_row z7 _ 7 _ _ _ (FX.out _ HC7.out)
       have c8 : z7.cell? ⟨w.heap.size, 8, none⟩ = some (.slice xqA xpol.length xqC) := cell_of_row z7 _ 8 _ _ _ (FX.out _ HC7.out)
       have c9 : z7.cell? ⟨w.heap.size, 9, none⟩ = some (.slice xhA xhor.length xhC) := cell_of_row z7 _ 9 _ _ _ (FX.out _ HC7.out)
       have d0 : z7.cell? ⟨w.heap.size + 1, 0, none⟩ = some (.int .i64 ytx) := cell_of_row z7 _ 0 _ _ _ (FY.out _ HC7.out)
       have d1 : z7.cell? ⟨w.heap.size + 1, 1, none⟩ = some (.int .i64 ytm) := cell_of_row z7 _ 1 _ _ _ (FY.out _ HC7.out)
       have d2 : z7.cell? ⟨w.heap.size + 1, 2, none⟩ = some (.int .i64 ywl) := cell_of_row z7 _ 2 _ _ _ (FY.out _ HC7.out)
       have d3 : z7.cell? ⟨w.heap.size + 1, 3, none⟩ = some (.int .i64 yfi) := cell_of_row z7 _ 3 _ _ _ (FY.out _ HC7.out)
       have d4 : z7.cell? ⟨w.heap.size + 1, 4, none⟩ = some (.slice yeA yents.length yeC) := cell_of_row z7 _ 4 _ _ _ (FY.out _ HC7.out)
       have d5 : z7.cell? ⟨w.heap.size + 1, 5, none⟩ = some (.slice ydA ydels.length ydC) := cell_of_row z7 _ 5 _ _ _ (FY.out _ HC7.out)
       have d6 : z7.cell? ⟨w.heap.size + 1, 6, none⟩ = some (.slice ypA ypla.length ypC) := cell_of_row z7 _ 6 _ _ _ (FY.out _ HC7.out)
       have d7 : z7.cell? ⟨w.heap.size + 1, 7, none⟩ = some (.slice yrA yrel.length yrC) := cell_of_row z7 _ 7 _ _ _ (FY.out _ HC7.out)
       have d8 : z7.cell? ⟨w.heap.size + 1, 8, none⟩ = some (.slice yqA ypol.length yqC) := cell_of_row z7 _ 8 _ _ _ (FY.out _ HC7.out)
       have d9 : z7.cell? ⟨w.heap.size + 1, 9, none⟩ = some (.slice yhA yhor.length yhC) := cell_of_row z7 _ 9 _ _ _ (FY.out _ HC7.out)
       cases v2
       case false =>
        have HF : Hid (rs = false) := Lib.hid (by rw [HR.out] <;> simp)
        go_wp2_with fail
        go_ret
        exact ⟨by rw [HF.out] <;> first | rfl | (simp; done), (HBW.out.trans (HC7.out.mono HBW.out.size))⟩
       case true =>
        have KK8 := K3 z7 (HBW.out.trans (HC7.out.mono HBW.out.size))
        go_wp2_with fail
        (with_reducible refine KK8.mono ?_)
        rintro _ z8 ⟨rfl, hz8⟩
        clear KK8
        have HC8 : Hid (Below W.heap.size W z8) := Lib.hid (HC7.out.trans (hz8.mono HC7.out.size))
        clear hz8
        clear c0 d0 c1 d1 c2 d2 c3 d3 c4 d4 c5 d5 c6 d6 c7 d7 c8 d8 c9 d9
        have c0 : z8.cell? ⟨w.heap.size, 0, none⟩ = some (.int .i64 xtx) := cell_of_row z8 _ 0 _ _ _ (FX.out _ HC8.out)
        have c1 : z8.cell? ⟨w.heap.size, 1, none⟩ = some (.int .i64 xtm) := cell_of_row z8 _ 1 _ _ _ (FX.out _ HC8.out)
        have c2 : z8.cell? ⟨w.heap.size, 2, none⟩ = some (.int .i64 xwl) := cell_of_row z8 _ 2 _ _ _ (FX.out _ HC8.out)
        have c3 : z8.cell? ⟨w.heap.size, 3, none⟩ = some (.int .i64 xfi) := cell_of_row z8 _ 3 _ _ _ (FX.out _ HC8.out)
        have c4 : z8.cell? ⟨w.heap.size, 4, none⟩ = some (.slice xeA xents.length xeC) := cell_of_row z8 _ 4 _ _ _ (FX.out _ HC8.out)
        have c5 : z8.cell? ⟨w.heap.size, 5, none⟩ = some (.slice xdA xdels.length xdC) := cell_of_row z8 _ 5 _ _ _ (FX.out _ HC8.out)
        have c6 : z8.cell? ⟨w.heap.size, 6, none⟩ = some (.slice xpA xpla.length xpC) := cell_of_row z8 _ 6 _ _ _ (FX.out _ HC8.out)
        have c7 : z8.cell? ⟨w.heap.size, 7, none⟩ = some (.slice xrA xrel.length xrC) := cell_of_row z8 _ 7 _ _ _ (FX.out _ HC8.out)
        have c8 : z8.cell? ⟨w.heap.size, 8, none⟩ = some (.slice xqA xpol.length xqC) := cell_of_row z8 _ 8 _ _ _ (FX.out _ HC8.out)
        have c9 : z8.cell? ⟨w.heap.size, 9, none⟩ = some (.slice xhA xhor.length xhC) := cell_of_row z8 _ 9 _ _ _ (FX.out _ HC8.out)
        have d0 : z8.cell? ⟨w.heap.size + 1, 0, none⟩ = some (.int .i64 ytx) := cell_of_row z8 _ 0 _ _ _ (FY.out _ HC8.out)
        have d1 : z8.cell? ⟨w.heap.size + 1, 1, none⟩ = some (.int .i64 ytm) := cell_of_row z8 _ 1 _ _ _ (FY.out _ HC8.out)
        have d2 : z8.cell? ⟨w.heap.size + 1, 2, none⟩ = some (.int .i64 ywl) := cell_of_row z8 _ 2 _ _ _ (FY.out _ HC8.out)
        have d3 : z8.cell? ⟨w.heap.size + 1, 3, none⟩ = some (.int .i64 yfi) := cell_of_row z8 _ 3 _ _ _ (FY.out _ HC8.out)
        have d4 : z8.cell? ⟨w.heap.size + 1, 4, none⟩ = some (.slice yeA yents.length yeC) := cell_of_row z8 _ 4 _ _ _ (FY.out _ HC8.out)
        have d5 : z8.cell? ⟨w.heap.size + 1, 5, none⟩ = some (.slice ydA ydels.length ydC) := cell_of_row z8 _ 5 _ _ _ (FY.out _ HC8.out)
        have d6 : z8.cell? ⟨w.heap.size + 1, 6, none⟩ = some (.slice ypA ypla.length ypC) := cell_of_row z8 _ 6 _ _ _ (FY.out _ HC8.out)
        have d7 : z8.cell? ⟨w.heap.size + 1, 7, none⟩ = some (.slice yrA yrel.length yrC) := cell_of_row z8 _ 7 _ _ _ (FY.out _ HC8.out)
        have d8 : z8.cell? ⟨w.heap.size + 1, 8, none⟩ = some (.slice yqA ypol.length yqC) := cell_of_row z8 _ 8 _ _ _ (FY.out _ HC8.out)
        have d9 : z8.cell? ⟨w.heap.size + 1, 9, none⟩ = some (.slice yhA yhor.length yhC) := cell_of_row z8 _ 9 _ _ _ (FY.out _ HC8.out)
        cases v3
        case false =>
         have HF : Hid (rs = false) := Lib.hid (by rw [HR.out] <;> simp)
         go_wp2_with fail
         go_ret
         exact ⟨by rw [HF.out] <;> first | rfl | (simp; done), (HBW.out.trans (HC8.out.mono HBW.out.size))⟩
        case true =>
         have KK9 := K4 z8 (HBW.out.trans (HC8.out.mono HBW.out.size))
         go_wp2_with fail
         (with_reducible refine KK9.mono ?_)
         rintro _ z9 ⟨rfl, hz9⟩
         clear KK9
         have HC9 : Hid (Below W.heap.size W z9) := Lib.hid (HC8.out.trans (hz9.mono HC8.out.size))
         clear hz9
         clear c0 d0 c1 d1 c2 d2 c3 d3 c4 d4 c5 d5 c6 d6 c7 d7 c8 d8 c9 d9
         have c0 : z9.cell? ⟨w.heap.size, 0, none⟩ = some (.int .i64 xtx) := cell_of_row z9 _ 0 _ _ _ (FX.out _ HC9.out)
         have c1 : z9.cell? ⟨w.heap.size, 1, none⟩ = some (.int .i64 xtm) := cell_of_row z9 _ 1 _ _ _ (FX.out _ HC9.out)
         have c2 : z9.cell? ⟨w.heap.size, 2, none⟩ = some (.int .i64 xwl) := cell_of_row z9 _ 2 _ _ _ (FX.out _ HC9.out)
         have c3 : z9.cell? ⟨w.heap.size, 3, none⟩ = some (.int .i64 xfi) := cell_of_row z9 _ 3 _ _ _ (FX.out _ HC9.out)
         have c4 : z9.cell? ⟨w.heap.size, 4, none⟩ = some (.slice xeA xents.length xeC) := cell_of_row z9 _ 4 _ _ _ (FX.out _ HC9.out)
         have c5 : z9.cell? ⟨w.heap.size, 5, none⟩ = some (.slice xdA xdels.length xdC) := cell_of_row z9 _ 5 _ _ _ (FX.out _ HC9.out)
         have c6 : z9.cell? ⟨w.heap.size, 6, none⟩ = some (.slice xpA xpla.length xpC) := cell_of_row z9 _ 6 _ _ _ (FX.out _ HC9.out)
         have c7 : z9.cell? ⟨w.heap.size, 7, none⟩ = some (.slice xrA xrel.length xrC) := cell_of_row z9 _ 7 _ _ _ (FX.out _ HC9.out)
         have c8 : z9.cell? ⟨w.heap.size, 8, none⟩ = some (.slice xqA xpol.length xqC) := cell_of_row z9 _ 8 _ _ _ (FX.out _ HC9.out)
         have c9 : z9.cell? ⟨w.heap.size, 9, none⟩ = some (.slice xhA xhor.length xhC) := cell_of_row z9 _ 9 _ _ _ (FX.out _ HC9.out)
         have d0 : z9.cell? ⟨w.heap.size + 1, 0, none⟩ = some (.int .i64 ytx) := cell_of_row z9 _ 0 _ _ _ (FY.out _ HC9.out)
         have d1 : z9.cell? ⟨w.heap.size + 1, 1, none⟩ = some (.int .i64 ytm) := cell_of_row z9 _ 1 _ _ _ (FY.out _ HC9.out)
         have d2 : z9.cell? ⟨w.heap.size + 1, 2, none⟩ = some (.int .i64 ywl) := cell_of_row z9 _ 2 _ _ _ (FY.out _ HC9.out)
         have d3 : z9.cell? ⟨w.heap.size + 1, 3, none⟩ = some (.int .i64 yfi) := cell_of_row z9 _ 3 _ _ _ (FY.out _ HC9.out)
         have d4 : z9.cell? ⟨w.heap.size + 1, 4, none⟩ = some (.slice yeA yents.length yeC) := cell_of_row z9 _ 4 _ _ _ (FY.out _ HC9.out)
         have d5 : z9.cell? ⟨w.heap.size + 1, 5, none⟩ = some (.slice ydA ydels.length ydC) := cell_of_row z9 _ 5 _ _ _ (FY.out _ HC9.out)
         have d6 : z9.cell? ⟨w.heap.size + 1, 6, none⟩ = some (.slice ypA ypla.length ypC) := cell_of_row z9 _ 6 _ _ _ (FY.out _ HC9.out)
         have d7 : z9.cell? ⟨w.heap.size + 1, 7, none⟩ = some (.slice yrA yrel.length yrC) := cell_of_row z9 _ 7 _ _ _ (FY.out _ HC9.out)
         have d8 : z9.cell? ⟨w.heap.size + 1, 8, none⟩ = some (.slice yqA ypol.length yqC) := cell_of_row z9 _ 8 _ _ _ (FY.out _ HC9.out)
         have d9 : z9.cell? ⟨w.heap.size + 1, 9, none⟩ = some (.slice yhA yhor.length yhC) := cell_of_row z9 _ 9 _ _ _ (FY.out _ HC9.out)
         cases v4
         case false =>
          have HF : Hid (rs = false) := Lib.hid (by rw [HR.out] <;> simp)
          go_wp2_with fail
          go_ret
          exact ⟨by rw [HF.out] <;> first | rfl | (simp; done), (HBW.out.trans (HC9.out.mono HBW.out.size))⟩
         case true =>
          have KK10 := K5 z9 (HBW.out.trans (HC9.out.mono HBW.out.size))
          go_wp2_with fail
          (with_reducible refine KK10.mono ?_)
          rintro _ z10 ⟨rfl, hz10⟩
          clear KK10
          have HC10 : Hid (Below W.heap.size W z10) := Lib.hid (HC9.out.trans (hz10.mono HC9.out.size))
          clear hz10
          clear c0 d0 c1 d1 c2 d2 c3 d3 c4 d4 c5 d5 c6 d6 c7 d7 c8 d8 c9 d9
          have c0 : z10.cell? ⟨w.heap.size, 0, none⟩ = some (.int .i64 xtx) := cell_of_row z10 _ 0 _ _ _ (FX.out _ HC10.out)
          have c1 : z10.cell? ⟨w.heap.size, 1, none⟩ = some (.int .i64 xtm) := cell_of_row z10 _ 1 _ _ _ (FX.out _ HC10.out)
          have c2 : z10.cell? ⟨w.heap.size, 2, none⟩ = some (.int .i64 xwl) := cell_of_row z10 _ 2 _ _ _ (FX.out _ HC10.out)
          have c3 : z10.cell? ⟨w.heap.size, 3, none⟩ = some (.int .i64 xfi) := cell_of_row z10 _ 3 _ _ _ (FX.out _ HC10.out)
          have c4 : z10.cell? ⟨w.heap.size, 4, none⟩ = some (.slice xeA xents.length xeC) := cell_of_row z10 _ 4 _ _ _ (FX.out _ HC10.out)
          have c5 : z10.cell? ⟨w.heap.size, 5, none⟩ = some (.slice xdA xdels.length xdC) := cell_of_row z10 _ 5 _ _ _ (FX.out _ HC10.out)
          have c6 : z10.cell? ⟨w.heap.size, 6, none⟩ = some (.slice xpA xpla.length xpC) := cell_of_row z10 _ 6 _ _ _ (FX.out _ HC10.out)
          have c7 : z10.cell? ⟨w.heap.size, 7, none⟩ = some (.slice xrA xrel.length xrC) := cell_of_row z10 _ 7 _ _ _ (FX.out _ HC10.out)
          have c8 : z10.cell? ⟨w.heap.size, 8, none⟩ = some (.slice xqA xpol.length xqC) := cell_of_row z10 _ 8 _ _ _ (FX.out _ HC10.out)
          have c9 : z10.cell? ⟨w.heap.size, 9, none⟩ = some (.slice xhA xhor.length xhC) := cell_of_row z10 _ 9 _ _ _ (FX.out _ HC10.out)
          have d0 : z10.cell? ⟨w.heap.size + 1, 0, none⟩ = some (.int .i64 ytx) := cell_of_row z10 _ 0 _ _ _ (FY.out _ HC10.out)
          have d1 : z10.cell? ⟨w.heap.size + 1, 1, none⟩ = some (.int .i64 ytm) := cell_of_row z10 _ 1 _ _ _ (FY.out _ HC10.out)
          have d2 : z10.cell? ⟨w.heap.size + 1, 2, none⟩ = some (.int .i64 ywl) := cell_of_row z10 _ 2 _ _ _ (FY.out _ HC10.out)
          have d3 : z10.cell? ⟨w.heap.size + 1, 3, none⟩ = some (.int .i64 yfi) := cell_of_row z10 _ 3 _ _ _ (FY.out _ HC10.out)
          have d4 : z10.cell? ⟨w.heap.size + 1, 4, none⟩ = some (.slice yeA yents.length yeC) := cell_of_row z10 _ 4 _ _ _ (FY.out _ HC10.out)
          have d5 : z10.cell? ⟨w.heap.size + 1, 5, none⟩ = some (.slice ydA ydels.length ydC) := cell_of_row z10 _ 5 _ _ _ (FY.out _ HC10.out)
          have d6 : z10.cell? ⟨w.heap.size + 1, 6, none⟩ = some (.slice ypA ypla.length ypC) := cell_of_row z10 _ 6 _ _ _ (FY.out _ HC10.out)
          have d7 : z10.cell? ⟨w.heap.size + 1, 7, none⟩ = some (.slice yrA yrel.length yrC) := cell_of_row z10 _ 7 _ _ _ (FY.out _ HC10.out)
          have d8 : z10.cell? ⟨w.heap.size + 1, 8, none⟩ = some (.slice yqA ypol.length yqC) := cell_of_row z10 _ 8 _ _ _ (FY.out _ HC10.out)
          have d9 : z10.cell? ⟨w.heap.size + 1, 9, none⟩ = some (.slice yhA yhor.length yhC) := cell_of_row z10 _ 9 _ _ _ (FY.out _ HC10.out)
          cases v5
          case false =>
           have HF : Hid (rs = false) := Lib.hid (by rw [HR.out] <;> simp)
           go_wp2_with fail
           go_ret
           exact ⟨by rw [HF.out] <;> first | rfl | (simp; done), (HBW.out.trans (HC10.out.mono HBW.out.size))⟩
          case true =>
           have HF : Hid (rs = true) := Lib.hid (by rw [HR.out, GG1.out, GG2.out, GG3.out, GG4.out] <;> first | rfl | (simp; done))
           go_wp2_with fail
           go_ret
           exact ⟨by rw [HF.out] <;> first | rfl | (simp; done), (HBW.out.trans (HC10.out.mono HBW.out.size))⟩
set_option maxRecDepth 1000000 in
set_option maxHeartbeats 8000000 in
theorem recSameState_any (x y : RSt) (w : World) (hx : x.is w (· < w.heap.size)) (hy : y.is w (· < w.heap.size)) (kx : ∀ n ∈ x.ents, ∀ e ∈ n.create.chks, exAll w (· < w.heap.size) e) (ky : ∀ n ∈ y.ents, ∀ e ∈ n.create.chks, exAll w (· < w.heap.size) e) :
  Calls Tryz.prog 22 #[.agg (RSt.enc x).toArray, .agg (RSt.enc y).toArray] w fun e w' => e = .returned (.bool (sSt x y)) ∧ Below w.heap.size w w' := by
 obtain ⟨xtx, xtm, xwl, xnx, xeA, xeC, xents, xsA, xsC, xstms, xtA, xtC, xtabs, xpA, xpC, xpla, xqA, xqC, xpol, xhA, xhC, xhor⟩ := x
 obtain ⟨ytx, ytm, ywl, ynx, yeA, yeC, yents, ysA, ysC, ystms, ytA, ytC, ytabs, ypA, ypC, ypla, yqA, yqC, ypol, yhA, yhC, yhor⟩ := y
 obtain ⟨rs, hrs⟩ : ∃ r, r = sSt ⟨xtx, xtm, xwl, xnx, xeA, xeC, xents, xsA, xsC, xstms, xtA, xtC, xtabs, xpA, xpC, xpla, xqA, xqC, xpol, xhA, xhC, xhor⟩ ⟨ytx, ytm, ywl, ynx, yeA, yeC, yents, ysA, ysC, ystms, ytA, ytC, ytabs, ypA, ypC, ypla, yqA, yqC, ypol, yhA, yhC, yhor⟩ := ⟨_, rfl⟩
 rw [← hrs]
 show Calls Tryz.prog 22 #[.agg #[.int .i64 xtx, .int .i64 xtm, .int .i64 xwl, .int .i64 xnx, .slice xeA xents.length xeC, .slice xsA xstms.length xsC, .slice xtA xtabs.length xtC, .slice xpA xpla.length xpC, .slice xqA xpol.length xqC, .slice xhA xhor.length xhC], .agg #[.int .i64 ytx, .int .i64 ytm, .int .i64 ywl, .int .i64 ynx, .slice yeA yents.length yeC, .slice ysA ystms.length ysC, .slice ytA ytabs.length ytC, .slice ypA ypla.length ypC, .slice yqA ypol.length yqC, .slice yhA yhor.length yhC]] w _
 have HR : Hid (rs = (decide (xtx = ytx) && (decide (xtm = ytm) && (decide (xwl = ywl) && (decide (xnx = ynx) && (sameL sEnt xents yents && (sameL sStm xstms ystms && (sameL sTv xtabs ytabs && (sameL sHld xpla ypla && (sameL sPol xpol ypol && (sameL sHor xhor yhor))))))))))) := Lib.hid (by rw [hrs]; rfl)
 clear hrs
 obtain ⟨W, hW⟩ : ∃ W, W = (w.alloc (.cells #[.int .i64 xtx, .int .i64 xtm, .int .i64 xwl, .int .i64 xnx, .slice xeA xents.length xeC, .slice xsA xstms.length xsC, .slice xtA xtabs.length xtC, .slice xpA xpla.length xpC, .slice xqA xpol.length xqC, .slice xhA xhor.length xhC] 47)).alloc (.cells #[.int .i64 ytx, .int .i64 ytm, .int .i64 ywl, .int .i64 ynx, .slice yeA yents.length yeC, .slice ysA ystms.length ysC, .slice ytA ytabs.length ytC, .slice ypA ypla.length ypC, .slice yqA ypol.length yqC, .slice yhA yhor.length yhC] 47) := ⟨_, rfl⟩
 have hbW : Below w.heap.size w W := by rw [hW]; exact (Below.of_alloc _).alloc (by simp) _
 have hWs : w.heap.size + 1 < W.heap.size := by rw [hW]; simp
 have hT : W.heap[w.heap.size]? = some (.cells #[.int .i64 xtx, .int .i64 xtm, .int .i64 xwl, .int .i64 xnx, .slice xeA xents.length xeC, .slice xsA xstms.length xsC, .slice xtA xtabs.length xtC, .slice xpA xpla.length xpC, .slice xqA xpol.length xqC, .slice xhA xhor.length xhC] 47 (0, 0)) := by
  rw [hW]
  exact ((Below.of_alloc (w := w.alloc (.cells #[.int .i64 xtx, .int .i64 xtm, .int .i64 xwl, .int .i64 xnx, .slice xeA xents.length xeC, .slice xsA xstms.length xsC, .slice xtA xtabs.length xtC, .slice xpA xpla.length xpC, .slice xqA xpol.length xqC, .slice xhA xhor.length xhC] 47)) (.cells #[.int .i64 ytx, .int .i64 ytm, .int .i64 ywl, .int .i64 ynx, .slice yeA yents.length yeC, .slice ysA ystms.length ysC, .slice ytA ytabs.length ytC, .slice ypA ypla.length ypC, .slice yqA ypol.length yqC, .slice yhA yhor.length yhC] 47)).block _ (by simp)).trans (heap_alloc_new _ _)
 have hU : W.heap[w.heap.size + 1]? = some (.cells #[.int .i64 ytx, .int .i64 ytm, .int .i64 ywl, .int .i64 ynx, .slice yeA yents.length yeC, .slice ysA ystms.length ysC, .slice ytA ytabs.length ytC, .slice ypA ypla.length ypC, .slice yqA ypol.length yqC, .slice yhA yhor.length yhC] 47 (0, 0)) := by
  rw [hW]
  have h := heap_alloc_new (w.alloc (.cells #[.int .i64 xtx, .int .i64 xtm, .int .i64 xwl, .int .i64 xnx, .slice xeA xents.length xeC, .slice xsA xstms.length xsC, .slice xtA xtabs.length xtC, .slice xpA xpla.length xpC, .slice xqA xpol.length xqC, .slice xhA xhor.length xhC] 47)) (.cells #[.int .i64 ytx, .int .i64 ytm, .int .i64 ywl, .int .i64 ynx, .slice yeA yents.length yeC, .slice ysA ystms.length ysC, .slice ytA ytabs.length ytC, .slice ypA ypla.length ypC, .slice yqA ypol.length yqC, .slice yhA yhor.length yhC] 47)
  simpa using h
 have FX : Hid (∀ V, Below W.heap.size W V → V.heap[w.heap.size]? = some (.cells #[.int .i64 xtx, .int .i64 xtm, .int .i64 xwl, .int .i64 xnx, .slice xeA xents.length xeC, .slice xsA xstms.length xsC, .slice xtA xtabs.length xtC, .slice xpA xpla.length xpC, .slice xqA xpol.length xqC, .slice xhA xhor.length xhC] 47 (0, 0))) := Lib.hid (fun V hV => (hV.block _ (by omega)).trans hT)
 have FY : Hid (∀ V, Below W.heap.size W V → V.heap[w.heap.size + 1]? = some (.cells #[.int .i64 ytx, .int .i64 ytm, .int .i64 ywl, .int .i64 ynx, .slice yeA yents.length yeC, .slice ysA ystms.length ysC, .slice ytA ytabs.length ytC, .slice ypA ypla.length ypC, .slice yqA ypol.length yqC, .slice yhA yhor.length yhC] 47 (0, 0))) := Lib.hid (fun V hV => (hV.block _ hWs).trans hU)
 have HBW := Lib.hid hbW
 have HC0 : Hid (Below W.heap.size W W) := Lib.hid (Below.refl _ _)
 have HW := Lib.hid hW
 clear hT hU hbW hWs hW
 obtain ⟨v0, hv0⟩ : ∃ bo, bo = sameL sEnt xents yents := ⟨_, rfl⟩
 have K0 := fun (V : World) (hV : Below w.heap.size w V) => eqfEnt_any _ _ xents yents V (hx.below hV).ents (hy.below hV).ents (fun a ha b hb U hU => sameEntry_any a b U (((hx.below hV).entI a ha).below hU) (((hy.below hV).entI b hb).below hU) (fun e he => ((kx a ha e he).blw hV).blw hU) (fun e he => ((ky b hb e he).blw hV).blw hU))
 rw [← hv0] at K0 HR
 clear hv0
 obtain ⟨v1, hv1⟩ : ∃ bo, bo = sameL sStm xstms ystms := ⟨_, rfl⟩
 have K1 := fun (V : World) (hV : Below w.heap.size w V) => eqStm_any _ _ xstms ystms V (hx.below hV).stms (hy.below hV).stms
 rw [← hv1] at K1 HR
 clear hv1
 obtain ⟨v2, hv2⟩ : ∃ bo, bo = sameL sTv xtabs ytabs := ⟨_, rfl⟩
 have K2 := fun (V : World) (hV : Below w.heap.size w V) => eqfTvs_any _ _ xtabs ytabs V (hx.below hV).tabs (hy.below hV).tabs (fun a ha b hb U hU => sameTvs_any a b U (((hx.below hV).tabI a ha).below hU) (((hy.below hV).tabI b hb).below hU))
 rw [← hv2] at K2 HR
 clear hv2
 obtain ⟨v3, hv3⟩ : ∃ bo, bo = sameL sHld xpla ypla := ⟨_, rfl⟩
 have K3 := fun (V : World) (hV : Below w.heap.size w V) => eqHld_any _ _ xpla ypla V (hx.below hV).pla (hy.below hV).pla
 rw [← hv3] at K3 HR
 clear hv3
 obtain ⟨v4, hv4⟩ : ∃ bo, bo = sameL sPol xpol ypol := ⟨_, rfl⟩
 have K4 := fun (V : World) (hV : Below w.heap.size w V) => eqPol_any _ _ xpol ypol V (hx.below hV).pol (hy.below hV).pol
 rw [← hv4] at K4 HR
 clear hv4
 obtain ⟨v5, hv5⟩ : ∃ bo, bo = sameL sHor xhor yhor := ⟨_, rfl⟩
 have K5 := fun (V : World) (hV : Below w.heap.size w V) => eqHor_any _ _ xhor yhor V (hx.below hV).hor (hy.below hV).hor
 rw [← hv5] at K5 HR
 clear hv5
 have c0 : W.cell? ⟨w.heap.size, 0, none⟩ = some (.int .i64 xtx) := cell_of_row W _ 0 _ _ _ (FX.out _ HC0.out)
 have c1 : W.cell? ⟨w.heap.size, 1, none⟩ = some (.int .i64 xtm) := cell_of_row W _ 1 _ _ _ (FX.out _ HC0.out)
 have c2 : W.cell? ⟨w.heap.size, 2, none⟩ = some (.int .i64 xwl) := cell_of_row W _ 2 _ _ _ (FX.out _ HC0.out)
 have c3 : W.cell? ⟨w.heap.size, 3, none⟩ = some (.int .i64 xnx) := cell_of_row W _ 3 _ _ _ (FX.out _ HC0.out)
 have c4 : W.cell? ⟨w.heap.size, 4, none⟩ = some (.slice xeA xents.length xeC) := cell_of_row W _ 4 _ _ _ (FX.out _ HC0.out)
 have c5 : W.cell? ⟨w.heap.size, 5, none⟩ = some (.slice xsA xstms.length xsC) := cell_of_row W _ 5 _ _ _ (FX.out _ HC0.out)
 have c6 : W.cell? ⟨w.heap.size, 6, none⟩ = some (.slice xtA xtabs.length xtC) := cell_of_row W _ 6 _ _ _ (FX.out _ HC0.out)
 have c7 : W.cell? ⟨w.heap.size, 7, none⟩ = some (.slice xpA xpla.length xpC) := cell_of_row W _ 7 _ _ _ (FX.out _ HC0.out)
 have c8 : W.cell? ⟨w.heap.size, 8, none⟩ = some (.slice xqA xpol.length xqC) := cell_of_row W _ 8 _ _ _ (FX.out _ HC0.out)
 have c9 : W.cell? ⟨w.heap.size, 9, none⟩ = some (.slice xhA xhor.length xhC) := cell_of_row W _ 9 _ _ _ (FX.out _ HC0.out)
 have d0 : W.cell? ⟨w.heap.size + 1, 0, none⟩ = some (.int .i64 ytx) := cell_of_row W _ 0 _ _ _ (FY.out _ HC0.out)
 have d1 : W.cell? ⟨w.heap.size + 1, 1, none⟩ = some (.int .i64 ytm) := cell_of_row W _ 1 _ _ _ (FY.out _ HC0.out)
 have d2 : W.cell? ⟨w.heap.size + 1, 2, none⟩ = some (.int .i64 ywl) := cell_of_row W _ 2 _ _ _ (FY.out _ HC0.out)
 have d3 : W.cell? ⟨w.heap.size + 1, 3, none⟩ = some (.int .i64 ynx) := cell_of_row W _ 3 _ _ _ (FY.out _ HC0.out)
 have d4 : W.cell? ⟨w.heap.size + 1, 4, none⟩ = some (.slice yeA yents.length yeC) := cell_of_row W _ 4 _ _ _ (FY.out _ HC0.out)
 have d5 : W.cell? ⟨w.heap.size + 1, 5, none⟩ = some (.slice ysA ystms.length ysC) := cell_of_row W _ 5 _ _ _ (FY.out _ HC0.out)
 have d6 : W.cell? ⟨w.heap.size + 1, 6, none⟩ = some (.slice ytA ytabs.length ytC) := cell_of_row W _ 6 _ _ _ (FY.out _ HC0.out)
 have d7 : W.cell? ⟨w.heap.size + 1, 7, none⟩ = some (.slice ypA ypla.length ypC) := cell_of_row W _ 7 _ _ _ (FY.out _ HC0.out)
 have d8 : W.cell? ⟨w.heap.size + 1, 8, none⟩ = some (.slice yqA ypol.length yqC) := cell_of_row W _ 8 _ _ _ (FY.out _ HC0.out)
 have d9 : W.cell? ⟨w.heap.size + 1, 9, none⟩ = some (.slice yhA yhor.length yhC) := cell_of_row W _ 9 _ _ _ (FY.out _ HC0.out)
 by_cases tt11 : xtx = ytx
 case neg =>
  have gg11 : decide (xtx = ytx) = false := decide_eq_false tt11
  have ee11 : (xtx == ytx) = false := by simpa using tt11
  have ff11 : (xtx != ytx) = true := by simpa using tt11
  have HF : Hid (rs = false) := Lib.hid (by rw [HR.out, gg11] <;> simp)
  go_enter Tryz.func22, Tryz.ntmps22
  go_wp2_with fail
  try rw [← HW.out]
  go_ret
  exact ⟨by rw [HF.out] <;> first | rfl | (simp; done), (HBW.out.trans (HC0.out.mono HBW.out.size))⟩
 case pos =>
  have GG11 : Hid (decide (xtx = ytx) = true) := Lib.hid (decide_eq_true tt11)
  have ee11 : (xtx == ytx) = true := by simpa using tt11
  have ff11 : (xtx != ytx) = false := by simpa using tt11
  clear tt11
  by_cases tt12 : xtm = ytm
  case neg =>
   have gg12 : decide (xtm = ytm) = false := decide_eq_false tt12
   have ee12 : (xtm == ytm) = false := by simpa using tt12
   have ff12 : (xtm != ytm) = true := by simpa using tt12
   have HF : Hid (rs = false) := Lib.hid (by rw [HR.out, gg12] <;> simp)
   go_enter Tryz.func22, Tryz.ntmps22
   go_wp2_with fail
   try rw [← HW.out]
   go_ret
   exact ⟨by rw [HF.out] <;> first | rfl | (simp; done), (HBW.out.trans (HC0.out.mono HBW.out.size))⟩
  case pos =>
   have GG12 : Hid (decide (xtm = ytm) = true) := Lib.hid (decide_eq_true tt12)
   have ee12 : (xtm == ytm) = true := by simpa using tt12
   have ff12 : (xtm != ytm) = false := by simpa using tt12
   clear tt12
   by_cases tt13 : xwl = ywl
   case neg =>
    have gg13 : decide (xwl = ywl) = false := decide_eq_false tt13
    have ee13 : (xwl == ywl) = false := by simpa using tt13
    have ff13 : (xwl != ywl) = true := by simpa using tt13
    have HF : Hid (rs = false) := Lib.hid (by rw [HR.out, gg13] <;> simp)
    go_enter Tryz.func22, Tryz.ntmps22
    go_wp2_with fail
    try rw [← HW.out]
    go_ret
    exact ⟨by rw [HF.out] <;> first | rfl | (simp; done), (HBW.out.trans (HC0.out.mono HBW.out.size))⟩
   case pos =>
    have GG13 : Hid (decide (xwl = ywl) = true) := Lib.hid (decide_eq_true tt13)
    have ee13 : (xwl == ywl) = true := by simpa using tt13
    have ff13 : (xwl != ywl) = false := by simpa using tt13
    clear tt13
    by_cases tt14 : xnx = ynx
    case neg =>
     have gg14 : decide (xnx = ynx) = false := decide_eq_false tt14
     have ee14 : (xnx == ynx) = false := by simpa using tt14
     have ff14 : (xnx != ynx) = true := by simpa using tt14
     have HF : Hid (rs = false) := Lib.hid (by rw [HR.out, gg14] <;> simp)
     go_enter Tryz.func22, Tryz.ntmps22
     go_wp2_with fail
     try rw [← HW.out]
     go_ret
     exact ⟨by rw [HF.out] <;> first | rfl | (simp; done), (HBW.out.trans (HC0.out.mono HBW.out.size))⟩
    case pos =>
     have GG14 : Hid (decide (xnx = ynx) = true) := Lib.hid (decide_eq_true tt14)
     have ee14 : (xnx == ynx) = true := by simpa using tt14
     have ff14 : (xnx != ynx) = false := by simpa using tt14
     clear tt14
     have KK15 := K0 W (HBW.out.trans (HC0.out.mono HBW.out.size))
     go_enter Tryz.func22, Tryz.ntmps22
     go_wp2_with fail
     try rw [← HW.out]
     (with_reducible refine KK15.mono ?_)
     rintro _ z15 ⟨rfl, hz15⟩
     clear KK15
     have HC15 : Hid (Below W.heap.size W z15) := Lib.hid (HC0.out.trans (hz15.mono HC0.out.size))
     clear hz15
     clear c0 d0 c1 d1 c2 d2 c3 d3 c4 d4 c5 d5 c6 d6 c7 d7 c8 d8 c9 d9
     have c0 : z15.cell? ⟨w.heap.size, 0, none⟩ = some (.int .i64 xtx) := cell_of_row z15 _ 0 _ _ _ (FX.out _ HC15.out)
     have c1 : z15.cell? ⟨w.heap.size, 1, none⟩ = some (.int .i64 xtm) := cell_of_row z15 _ 1 _ _ _ (FX.out _ HC15.out)
     have c2 : z15.cell? ⟨w.heap.size, 2, none⟩ = some (.int .i64 xwl) := cell_of_row z15 _ 2 _ _ _ (FX.out _ HC15.out)
     have c3 : z15.cell? ⟨w.heap.size, 3, none⟩ = some (.int .i64 xnx) := cell_of_row z15 _ 3 _ _ _ (FX.out _ HC15.out)
     have c4 : z15.cell? ⟨w.heap.size, 4, none⟩ = some (.slice xeA xents.length xeC) := cell_of_row z15 _ 4 _ _ _ (FX.out _ HC15.out)
     have c5 : z15.cell? ⟨w.heap.size, 5, none⟩ = some (.slice xsA xstms.length xsC) := cell_of_row z15 _ 5 _ _ _ (FX.out _ HC15.out)
     have c6 : z15.cell? ⟨w.heap.size, 6, none⟩ = some (.slice xtA xtabs.length xtC) := cell_of_row z15 _ 6 _ _ _ (FX.out _ HC15.out)
     have c7 : z15.cell? ⟨w.heap.size, 7, none⟩ = some (.slice xpA xpla.length xpC) := cell_of_row z15 _ 7 _ _ _ (FX.out _ HC15.out)
     have c8 : z15.cell? ⟨w.heap.size, 8, none⟩ = some (.slice xqA xpol.length xqC) := cell_of_row z15 _ 8 _ _ _ (FX.out _ HC15.out)
     have c9 : z15.cell? ⟨w.heap.size, 9, none⟩ = some (.slice xhA xhor.length xhC) := cell_of_row z15 _ 9 _ _ _ (FX.out _ HC15.out)
     have d0 : z15.cell? ⟨w.heap.size + 1, 0, none⟩ = some (.int .i64 ytx) := cell_of_row z15 _ 0 _ _ _ (FY.out _ HC15.out)
     have d1 : z15.cell? ⟨w.heap.size + 1, 1, none⟩ = some (.int .i64 ytm) := cell_of_row z15 _ 1 _ _ _ (FY.out _ HC15.out)
     have d2 : z15.cell? ⟨w.heap.size + 1, 2, none⟩ = some (.int .i64 ywl) := cell_of_row z15 _ 2 _ _ _ (FY.out _ HC15.out)
     have d3 : z15.cell? ⟨w.heap.size + 1, 3, none⟩ = some (.int .i64 ynx) := cell_of_row z15 _ 3 _ _ _ (FY.out _ HC15.out)
     have d4 : z15.cell? ⟨w.heap.size + 1, 4, none⟩ = some (.slice yeA yents.length yeC) := cell_of_row z15 _ 4 _ _ _ (FY.out _ HC15.out)
     have d5 : z15.cell? ⟨w.heap.size + 1, 5, none⟩ = some (.slice ysA ystms.length ysC) := cell_of_row z15 _ 5 _ _ _ (FY.out _ HC15.out)
     have d6 : z15.cell? ⟨w.heap.size + 1, 6, none⟩ = some (.slice ytA ytabs.length ytC) := cell_of_row z15 _ 6 _ _ _ (FY.out _ HC15.out)
     have d7 : z15.cell? ⟨w.heap.size + 1, 7, none⟩ = some (.slice ypA ypla.length ypC) := cell_of_row z15 _ 7 _ _ _ (FY.out _ HC15.out)
     have d8 : z15.cell? ⟨w.heap.size + 1, 8, none⟩ = some (.slice yqA ypol.length yqC) := cell_of_row z15 _ 8 _ _ _ (FY.out _ HC15.out)
     have d9 : z15.cell? ⟨w.heap.size + 1, 9, none⟩ = some (.slice yhA yhor.length yhC) := cell_of_row z15 _ 9 _ _ _ (FY.out _ HC15.out)
     cases v0
     case false =>
      have HF : Hid (rs = false) := Lib.hid (by rw [HR.out] <;> simp)
      go_wp2_with fail
      go_ret
      exact ⟨by rw [HF.out] <;> first | rfl | (simp; done), (HBW.out.trans (HC15.out.mono HBW.out.size))⟩
     case true =>
      have KK16 := K1 z15 (HBW.out.trans (HC15.out.mono HBW.out.size))
      go_wp2_with fail
      (with_reducible refine KK16.mono ?_)
      rintro _ z16 ⟨rfl, hz16⟩
      clear KK16
      have HC16 : Hid (Below W.heap.size W z16) := Lib.hid (HC15.out.trans (hz16.mono HC15.out.size))
      clear hz16
      clear c0 d0 c1 d1 c2 d2 c3 d3 c4 d4 c5 d5 c6 d6 c7 d7 c8 d8 c9 d9
      have c0 : z16.cell? ⟨w.heap.size, 0, none⟩ = some (.int .i64 xtx) := cell_of_row z16 _ 0 _ _ _ (FX.out _ HC16.out)
      have c1 : z16.cell? ⟨w.heap.size, 1, none⟩ = some (.int .i64 xtm) := cell_of_row z16 _ 1 _ _ _ (FX.out _ HC16.out)
      have c2 : z16.cell? ⟨w.heap.size, 2, none⟩ = some (.int .i64 xwl) := cell_of_row z16 _ 2 _ _ _ (FX.out _ HC16.out)
      have c3 : z16.cell? ⟨w.heap.size, 3, none⟩ = some (.int .i64 xnx) := cell_of_row z16 _ 3 _ _ _ (FX.out _ HC16.out)
      have c4 : z16.cell? ⟨w.heap.size, 4, none⟩ = some (.slice xeA xents.length xeC) := cell_of_row z16 _ 4 _ _ _ (FX.out _ HC16.out)
      have c5 : z16.cell? ⟨w.heap.size, 5, none⟩ = some (.slice xsA xstms.length xsC) := cell_of_row z16 _ 5 _ _ _ (FX.out _ HC16.out)
      have c6 : z16.cell? ⟨w.heap.size, 6, none⟩ = some (.slice xtA xtabs.length xtC) := cell_of_row z16 _ 6 _ _ _ (FX.out _ HC16.out)
      have c7 : z16.cell? ⟨w.heap.size, 7, none⟩ = some (.slice xpA xpla.length xpC) := cell_of_row z16 _ 7 _ _ _ (FX.out _ HC16.out)
      have c8 : z16.cell? ⟨w.heap.size, 8, none⟩ = some (.slice xqA xpol.length xqC) := cell_of_row z16 _ 8 _ _ _ (FX.out _ HC16.out)
      have c9 : z16.cell? ⟨w.heap.size, 9, none⟩ = some (.slice xhA xhor.length xhC) := cell_of_row z16 _ 9 _ _ _ (FX.out _ HC16.out)
      have d0 : z16.cell? ⟨w.heap.size + 1, 0, none⟩ = some (.int .i64 ytx) := cell_of_row z16 _ 0 _ _ _ (FY.out _ HC16.out)
      have d1 : z16.cell? ⟨w.heap.size + 1, 1, none⟩ = some (.int .i64 ytm) := cell_of_row z16 _ 1 _ _ _ (FY.out _ HC16.out)
      have d2 : z16.cell? ⟨w.heap.size + 1, 2, none⟩ = some (.int .i64 ywl) := cell_of_row z16 _ 2 _ _ _ (FY.out _ HC16.out)
      have d3 : z16.cell? ⟨w.heap.size + 1, 3, none⟩ = some (.int .i64 ynx) := cell_of_row z16 _ 3 _ _ _ (FY.out _ HC16.out)
      have d4 : z16.cell? ⟨w.heap.size + 1, 4, none⟩ = some (.slice yeA yents.length yeC) := cell_of_row z16 _ 4 _ _ _ (FY.out _ HC16.out)
      have d5 : z16.cell? ⟨w.heap.size + 1, 5, none⟩ = some (.slice ysA ystms.length ysC) := cell_of_row z16 _ 5 _ _ _ (FY.out _ HC16.out)
      have d6 : z16.cell? ⟨w.heap.size + 1, 6, none⟩ = some (.slice ytA ytabs.length ytC) := cell_of_row z16 _ 6 _ _ _ (FY.out _ HC16.out)
      have d7 : z16.cell? ⟨w.heap.size + 1, 7, none⟩ = some (.slice ypA ypla.length ypC) := cell_of_row z16 _ 7 _ _ _ (FY.out _ HC16.out)
      have d8 : z16.cell? ⟨w.heap.size + 1, 8, none⟩ = some (.slice yqA ypol.length yqC) := cell_of_row z16 _ 8 _ _ _ (FY.out _ HC16.out)
      have d9 : z16.cell? ⟨w.heap.size + 1, 9, none⟩ = some (.slice yhA yhor.length yhC) := cell_of_row z16 _ 9 _ _ _ (FY.out _ HC16.out)
      cases v1
      case false =>
       have HF : Hid (rs = false) := Lib.hid (by rw [HR.out] <;> simp)
       go_wp2_with fail
       go_ret
       exact ⟨by rw [HF.out] <;> first | rfl | (simp; done), (HBW.out.trans (HC16.out.mono HBW.out.size))⟩
      case true =>
       have KK17 := K2 z16 (HBW.out.trans (HC16.out.mono HBW.out.size))
       go_wp2_with fail
       (with_reducible refine KK17.mono ?_)
       rintro _ z17 ⟨rfl, hz17⟩
       clear KK17
       have HC17 : Hid (Below W.heap.size W z17) := Lib.hid (HC16.out.trans (hz17.mono HC16.out.size))
       clear hz17
       clear c0 d0 c1 d1 c2 d2 c3 d3 c4 d4 c5 d5 c6 d6 c7 d7 c8 d8 c9 d9
       have c0 : z17.cell? ⟨w.heap.size, 0, none⟩ = some (.int .i64 xtx) := cell_of_row z17 _ 0 _ _ _ (FX.out _ HC17.out)
       have c1 : z17.cell? ⟨w.heap.size, 1, none⟩ = some (.int .i64 xtm) := cell_of_row z17 _ 1 _ _ _ (FX.out _ HC17.out)
       have c2 : z17.cell? ⟨w.heap.size, 2, none⟩ = some (.int .i64 xwl) := cell_of_row z17 _ 2 _ _ _ (FX.out _ HC17.out)
       have c3 : z17.cell? ⟨w.heap.size, 3, none⟩ = some (.int .i64 xnx) := cell_of_row z17 _ 3 _ _ _ (FX.out _ HC17.out)
       have c4 : z17.cell? ⟨w.heap.size, 4, none⟩ = some (.slice xeA xents.length xeC) := cell_of_row z17 _ 4 _ _ _ (FX.out _ HC17.out)
       have c5 : z17.cell? ⟨w.heap.size, 5, none⟩ = some (.slice xsA xstms.length xsC) := cell_of_row z17 _ 5 _ _ _ (FX.out _ HC17.out)
       have c6 : z17.cell? ⟨w.heap.size, 6, none⟩ = some (.slice xtA xtabs.length xtC) := cell_of_row z17 _ 6 _ _ _ (FX.out _ HC17.out)
       have c7 : z17.cell? ⟨w.heap.size, 7, none⟩ = some (.slice xpA xpla.length xpC) := cell_of_row z17 _ 7 _ _ _ (FX.out _ HC17.out)
       have c8 : z17.cell? ⟨w.heap.size, 8, none⟩ = some (.slice xqA xpol.length xqC) := cell_of_row z17 _ 8 _ _ _ (FX.out _ HC17.out)
       have c9 : z17.cell? ⟨w.heap.size, 9, none⟩ = some (.slice xhA xhor.length xhC) := cell_of_row z17 _ 9 _ _ _ (FX.out _ HC17.out)
       have d0 : z17.cell? ⟨w.heap.size + 1, 0, none⟩ = some (.int .i64 ytx) := cell_of_row z17 _ 0 _ _ _ (FY.out _ HC17.out)
       have d1 : z17.cell? ⟨w.heap.size + 1, 1, none⟩ = some (.int .i64 ytm) := cell_of_row z17 _ 1 _ _ _ (FY.out _ HC17.out)
       have d2 : z17.cell? ⟨w.heap.size + 1, 2, none⟩ = some (.int .i64 ywl) := cell_of_row z17 _ 2 _ _ _ (FY.out _ HC17.out)
       have d3 : z17.cell? ⟨w.heap.size + 1, 3, none⟩ = some (.int .i64 ynx) := cell_of_row z17 _ 3 _ _ _ (FY.out _ HC17.out)
       have d4 : z17.cell? ⟨w.heap.size + 1, 4, none⟩ = some (.slice yeA yents.length yeC) := cell_of_row z17 _ 4 _ _ _ (FY.out _ HC17.out)
       have d5 : z17.cell? ⟨w.heap.size + 1, 5, none⟩ = some (.slice ysA ystms.length ysC) := cell_of_row z17 _ 5 _ _ _ (FY.out _ HC17.out)
       have d6 : z17.cell? ⟨w.heap.size + 1, 6, none⟩ = some (.slice ytA ytabs.length ytC) := cell_of_row z17 _ 6 _ _ _ (FY.out _ HC17.out)
       have d7 : z17.cell? ⟨w.heap.size + 1, 7, none⟩ = some (.slice ypA ypla.length ypC) := cell_of_row z17 _ 7 _ _ _ (FY.out _ HC17.out)
       have d8 : z17.cell? ⟨w.heap.size + 1, 8, none⟩ = some (.slice yqA ypol.length yqC) := cell_of_row z17 _ 8 _ _ _ (FY.out _ HC17.out)
       have d9 : z17.cell? ⟨w.heap.size + 1, 9, none⟩ = some (.slice yhA yhor.length yhC) := cell_of_row z17 _ 9 _ _ _ (FY.out _ HC17.out)
       cases v2
       case false =>
        have HF : Hid (rs = false) := Lib.hid (by rw [HR.out] <;> simp)
        go_wp2_with fail
        go_ret
        exact ⟨by rw [HF.out] <;> first | rfl | (simp; done), (HBW.out.trans (HC17.out.mono HBW.out.size))⟩
       case true =>
        have KK18 := K3 z17 (HBW.out.trans (HC17.out.mono HBW.out.size))
        go_wp2_with fail
        (with_reducible refine KK18.mono ?_)
        rintro _ z18 ⟨rfl, hz18⟩
        clear KK18
        have HC18 : Hid (Below W.heap.size W z18) := Lib.hid (HC17.out.trans (hz18.mono HC17.out.size))
        clear hz18
        clear c0 d0 c1 d1 c2 d2 c3 d3 c4 d4 c5 d5 c6 d6 c7 d7 c8 d8 c9 d9
        have c0 : z18.cell? ⟨w.heap.size, 0, none⟩ = some (.int .i64 xtx) := cell_of_row z18 _ 0 _ _ _ (FX.out _ HC18.out)
        have c1 : z18.cell? ⟨w.heap.size, 1, none⟩ = some (.int .i64 xtm) := cell_of_row z18 _ 1 _ _ _ (FX.out _ HC18.out)
        have c2 : z18.cell? ⟨w.heap.size, 2, none⟩ = some (.int .i64 xwl) := cell_of_row z18 _ 2 _ _ _ (FX.out _ HC18.out)
        have c3 : z18.cell? ⟨w.heap.size, 3, none⟩ = some (.int .i64 xnx) := cell_of_row z18 _ 3 _ _ _ (FX.out _ HC18.out)
        have c4 : z18.cell? ⟨w.heap.size, 4, none⟩ = some (.slice xeA xents.length xeC) := cell_of_row z18 _ 4 _ _ _ (FX.out _ HC18.out)
        have c5 : z18.cell? ⟨w.heap.size, 5, none⟩ = some (.slice xsA xstms.length xsC) := cell_of_row z18 _ 5 _ _ _ (FX.out _ HC18.out)
        have c6 : z18.cell? ⟨w.heap.size, 6, none⟩ = some (.slice xtA xtabs.length xtC) := cell_of_row z18 _ 6 _ _ _ (FX.out _ HC18.out)
        have c7 : z18.cell? ⟨w.heap.size, 7, none⟩ = some (.slice xpA xpla.length xpC) := cell_of_row z18 _ 7 _ _ _ (FX.out _ HC18.out)
        have c8 : z18.cell? ⟨w.heap.size, 8, none⟩ = some (.slice xqA xpol.length xqC) := cell_of_row z18 _ 8 _ _ _ (FX.out _ HC18.out)
        have c9 : z18.cell? ⟨w.heap.size, 9, none⟩ = some (.slice xhA xhor.length xhC) := cell_of_row z18 _ 9 _ _ _ (FX.out _ HC18.out)
        have d0 : z18.cell? ⟨w.heap.size + 1, 0, none⟩ = some (.int .i64 ytx) := cell_of_row z18 _ 0 _ _ _ (FY.out _ HC18.out)
        have d1 : z18.cell? ⟨w.heap.size + 1, 1, none⟩ = some (.int .i64 ytm) := cell_of_row z18 _ 1 _ _ _ (FY.out _ HC18.out)
        have d2 : z18.cell? ⟨w.heap.size + 1, 2, none⟩ = some (.int .i64 ywl) := cell_of_row z18 _ 2 _ _ _ (FY.out _ HC18.out)
        have d3 : z18.cell? ⟨w.heap.size + 1, 3, none⟩ = some (.int .i64 ynx) := cell_of_row z18 _ 3 _ _ _ (FY.out _ HC18.out)
        have d4 : z18.cell? ⟨w.heap.size + 1, 4, none⟩ = some (.slice yeA yents.length yeC) := cell_of_row z18 _ 4 _ _ _ (FY.out _ HC18.out)
        have d5 : z18.cell? ⟨w.heap.size + 1, 5, none⟩ = some (.slice ysA ystms.length ysC) := cell_of_row z18 _ 5 _ _ _ (FY.out _ HC18.out)
        have d6 : z18.cell? ⟨w.heap.size + 1, 6, none⟩ = some (.slice ytA ytabs.length ytC) := cell_of_row z18 _ 6 _ _ _ (FY.out _ HC18.out)
        have d7 : z18.cell? ⟨w.heap.size + 1, 7, none⟩ = some (.slice ypA ypla.length ypC) := cell_of_row z18 _ 7 _ _ _ (FY.out _ HC18.out)
        have d8 : z18.cell? ⟨w.heap.size + 1, 8, none⟩ = some (.slice yqA ypol.length yqC) := cell_of_row z18 _ 8 _ _ _ (FY.out _ HC18.out)
        have d9 : z18.cell? ⟨w.heap.size + 1, 9, none⟩ = some (.slice yhA yhor.length yhC) := cell_of_row z18 _ 9 _ _ _ (FY.out _ HC18.out)
        cases v3
        case false =>
         have HF : Hid (rs = false) := Lib.hid (by rw [HR.out] <;> simp)
         go_wp2_with fail
         go_ret
         exact ⟨by rw [HF.out] <;> first | rfl | (simp; done), (HBW.out.trans (HC18.out.mono HBW.out.size))⟩
        case true =>
         have KK19 := K4 z18 (HBW.out.trans (HC18.out.mono HBW.out.size))
         go_wp2_with fail
         (with_reducible refine KK19.mono ?_)
         rintro _ z19 ⟨rfl, hz19⟩
         clear KK19
         have HC19 : Hid (Below W.heap.size W z19) := Lib.hid (HC18.out.trans (hz19.mono HC18.out.size))
         clear hz19
         clear c0 d0 c1 d1 c2 d2 c3 d3 c4 d4 c5 d5 c6 d6 c7 d7 c8 d8 c9 d9
         have c0 : z19.cell? ⟨w.heap.size, 0, none⟩ = some (.int .i64 xtx) := cell_of_row z19 _ 0 _ _ _ (FX.out _ HC19.out)
         have c1 : z19.cell? ⟨w.heap.size, 1, none⟩ = some (.int .i64 xtm) := cell_of_row z19 _ 1 _ _ _ (FX.out _ HC19.out)
         have c2 : z19.cell? ⟨w.heap.size, 2, none⟩ = some (.int .i64 xwl) := cell_of_row z19 _ 2 _ _ _ (FX.out _ HC19.out)
         have c3 : z19.cell? ⟨w.heap.size, 3, none⟩ = some (.int .i64 xnx) := cell_of_row z19 _ 3 _ _ _ (FX.out _ HC19.out)
         have c4 : z19.cell? ⟨w.heap.size, 4, none⟩ = some (.slice xeA xents.length xeC) := cell_of_row z19 _ 4 _ _ _ (FX.out _ HC19.out)
         have c5 : z19.cell? ⟨w.heap.size, 5, none⟩ = some (.slice xsA xstms.length xsC) := cell_of_row z19 _ 5 _ _ _ (FX.out _ HC19.out)
         have c6 : z19.cell? ⟨w.heap.size, 6, none⟩ = some (.slice xtA xtabs.length xtC) := cell_of_row z19 _ 6 _ _ _ (FX.out _ HC19.out)
         have c7 : z19.cell? ⟨w.heap.size, 7, none⟩ = some (.slice xpA xpla.length xpC) := cell_of_row z19 _ 7 _ _ _ (FX.out _ HC19.out)
         have c8 : z19.cell? ⟨w.heap.size, 8, none⟩ = some (.slice xqA xpol.length xqC) := cell_of_row z19 _ 8 _ _ _ (FX.out _ HC19.out)
         have c9 : z19.cell? ⟨w.heap.size, 9, none⟩ = some (.slice xhA xhor.length xhC) := cell_of_row z19 _ 9 _ _ _ (FX.out _ HC19.out)
         have d0 : z19.cell? ⟨w.heap.size + 1, 0, none⟩ = some (.int .i64 ytx) := cell_of_row z19 _ 0 _ _ _ (FY.out _ HC19.out)
         have d1 : z19.cell? ⟨w.heap.size + 1, 1, none⟩ = some (.int .i64 ytm) := cell_of_row z19 _ 1 _ _ _ (FY.out _ HC19.out)
         have d2 : z19.cell? ⟨w.heap.size + 1, 2, none⟩ = some (.int .i64 ywl) := cell_of_row z19 _ 2 _ _ _ (FY.out _ HC19.out)
         have d3 : z19.cell? ⟨w.heap.size + 1, 3, none⟩ = some (.int .i64 ynx) := cell_of_row z19 _ 3 _ _ _ (FY.out _ HC19.out)
         have d4 : z19.cell? ⟨w.heap.size + 1, 4, none⟩ = some (.slice yeA yents.length yeC) := cell_of_row z19 _ 4 _ _ _ (FY.out _ HC19.out)
         have d5 : z19.cell? ⟨w.heap.size + 1, 5, none⟩ = some (.slice ysA ystms.length ysC) := cell_of_row z19 _ 5 _ _ _ (FY.out _ HC19.out)
         have d6 : z19.cell? ⟨w.heap.size + 1, 6, none⟩ = some (.slice ytA ytabs.length ytC) := cell_of_row z19 _ 6 _ _ _ (FY.out _ HC19.out)
         have d7 : z19.cell? ⟨w.heap.size + 1, 7, none⟩ = some (.slice ypA ypla.length ypC) := cell_of_row z19 _ 7 _ _ _ (FY.out _ HC19.out)
         have d8 : z19.cell? ⟨w.heap.size + 1, 8, none⟩ = some (.slice yqA ypol.length yqC) := cell_of_row z19 _ 8 _ _ _ (FY.out _ HC19.out)
         have d9 : z19.cell? ⟨w.heap.size + 1, 9, none⟩ = some (.slice yhA yhor.length yhC) := cell_of_row z19 _ 9 _ _ _ (FY.out _ HC19.out)
         cases v4
         case false =>
          have HF : Hid (rs = false) := Lib.hid (by rw [HR.out] <;> simp)
          go_wp2_with fail
          go_ret
          exact ⟨by rw [HF.out] <;> first | rfl | (simp; done), (HBW.out.trans (HC19.out.mono HBW.out.size))⟩
         case true =>
          have KK20 := K5 z19 (HBW.out.trans (HC19.out.mono HBW.out.size))
          go_wp2_with fail
          (with_reducible refine KK20.mono ?_)
          rintro _ z20 ⟨rfl, hz20⟩
          clear KK20
          have HC20 : Hid (Below W.heap.size W z20) := Lib.hid (HC19.out.trans (hz20.mono HC19.out.size))
          clear hz20
          clear c0 d0 c1 d1 c2 d2 c3 d3 c4 d4 c5 d5 c6 d6 c7 d7 c8 d8 c9 d9
          have c0 : z20.cell? ⟨w.heap.size, 0, none⟩ = some (.int .i64 xtx) := cell_of_row z20 _ 0 _ _ _ (FX.out _ HC20.out)
          have c1 : z20.cell? ⟨w.heap.size, 1, none⟩ = some (.int .i64 xtm) := cell_of_row z20 _ 1 _ _ _ (FX.out _ HC20.out)
          have c2 : z20.cell? ⟨w.heap.size, 2, none⟩ = some (.int .i64 xwl) := cell_of_row z20 _ 2 _ _ _ (FX.out _ HC20.out)
          have c3 : z20.cell? ⟨w.heap.size, 3, none⟩ = some (.int .i64 xnx) := cell_of_row z20 _ 3 _ _ _ (FX.out _ HC20.out)
          have c4 : z20.cell? ⟨w.heap.size, 4, none⟩ = some (.slice xeA xents.length xeC) := cell_of_row z20 _ 4 _ _ _ (FX.out _ HC20.out)
          have c5 : z20.cell? ⟨w.heap.size, 5, none⟩ = some (.slice xsA xstms.length xsC) := cell_of_row z20 _ 5 _ _ _ (FX.out _ HC20.out)
          have c6 : z20.cell? ⟨w.heap.size, 6, none⟩ = some (.slice xtA xtabs.length xtC) := cell_of_row z20 _ 6 _ _ _ (FX.out _ HC20.out)
          have c7 : z20.cell? ⟨w.heap.size, 7, none⟩ = some (.slice xpA xpla.length xpC) := cell_of_row z20 _ 7 _ _ _ (FX.out _ HC20.out)
          have c8 : z20.cell? ⟨w.heap.size, 8, none⟩ = some (.slice xqA xpol.length xqC) := cell_of_row z20 _ 8 _ _ _ (FX.out _ HC20.out)
          have c9 : z20.cell? ⟨w.heap.size, 9, none⟩ = some (.slice xhA xhor.length xhC) := cell_of_row z20 _ 9 _ _ _ (FX.out _ HC20.out)
          have d0 : z20.cell? ⟨w.heap.size + 1, 0, none⟩ = some (.int .i64 ytx) := cell_of_row z20 _ 0 _ _ _ (FY.out _ HC20.out)
          have d1 : z20.cell? ⟨w.heap.size + 1, 1, none⟩ = some (.int .i64 ytm) := cell_of_row z20 _ 1 _ _ _ (FY.out _ HC20.out)
          have d2 : z20.cell? ⟨w.heap.size + 1, 2, none⟩ = some (.int .i64 ywl) := cell_of_row z20 _ 2 _ _ _ (FY.out _ HC20.out)
          have d3 : z20.cell? ⟨w.heap.size + 1, 3, none⟩ = some (.int .i64 ynx) := cell_of_row z20 _ 3 _ _ _ (FY.out _ HC20.out)
          have d4 : z20.cell? ⟨w.heap.size + 1, 4, none⟩ = some (.slice yeA yents.length yeC) := cell_of_row z20 _ 4 _ _ _ (FY.out _ HC20.out)
          have d5 : z20.cell? ⟨w.heap.size + 1, 5, none⟩ = some (.slice ysA ystms.length ysC) := cell_of_row z20 _ 5 _ _ _ (FY.out _ HC20.out)
          have d6 : z20.cell? ⟨w.heap.size + 1, 6, none⟩ = some (.slice ytA ytabs.length ytC) := cell_of_row z20 _ 6 _ _ _ (FY.out _ HC20.out)
          have d7 : z20.cell? ⟨w.heap.size + 1, 7, none⟩ = some (.slice ypA ypla.length ypC) := cell_of_row z20 _ 7 _ _ _ (FY.out _ HC20.out)
          have d8 : z20.cell? ⟨w.heap.size + 1, 8, none⟩ = some (.slice yqA ypol.length yqC) := cell_of_row z20 _ 8 _ _ _ (FY.out _ HC20.out)
          have d9 : z20.cell? ⟨w.heap.size + 1, 9, none⟩ = some (.slice yhA yhor.length yhC) := cell_of_row z20 _ 9 _ _ _ (FY.out _ HC20.out)
          cases v5
          case false =>
           have HF : Hid (rs = false) := Lib.hid (by rw [HR.out] <;> simp)
           go_wp2_with fail
           go_ret
           exact ⟨by rw [HF.out] <;> first | rfl | (simp; done), (HBW.out.trans (HC20.out.mono HBW.out.size))⟩
          case true =>
           have HF : Hid (rs = true) := Lib.hid (by rw [HR.out, GG11.out, GG12.out, GG13.out, GG14.out] <;> first | rfl | (simp; done))
           go_wp2_with fail
           go_ret
           exact ⟨by rw [HF.out] <;> first | rfl | (simp; done), (HBW.out.trans (HC20.out.mono HBW.out.size))⟩
end Go.Proofs.YtbfdegkickjbpaaGreat
