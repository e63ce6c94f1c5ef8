/-
 SmI
-/
import Derived.Test.YtbfdegkickjbpaaGreatSSmH
namespace Go.Proofs.YtbfdegkickjbpaaGreat
open Go.RowKit Go.Lib Go.IntWalk Go.Sort Go.Shelf
set_option maxRecDepth 1000000 in
set_option maxHeartbeats 16000000 in
theorem refSameVersions_any (v u : Value) (l m : List VP) (w : World) (hv : RdVs w (· < w.heap.size) v l) (hu : RdVs w (· < w.heap.size) u m) :
  Calls Tryz.prog 103 #[v, u] w fun e w' => e = .returned (.bool (sameL sVer l m)) ∧ Below w.heap.size w w' := by
 obtain ⟨A, c, rfl, a1, a2, a3⟩ := hv.1.open_
 obtain ⟨A', c', rfl, b1, b2, b3⟩ := hu.1.open_
 unfold maxLen at a2 b2
 have HV := Lib.hid hv
 have HU := Lib.hid hu
 obtain ⟨res, hres⟩ : ∃ r, r = sameL sVer l m := ⟨_, rfl⟩
 rw [← hres]
 have HRES := Lib.hid hres
 clear hv hu hres a3 b3
 go_enter Tryz.func103, Tryz.ntmps103
 by_cases hlen : l.length = m.length
 case neg =>
  have HE : Hid (res = false) := Lib.hid (by rw [HRES.out]; exact sameL_len hlen)
  have hlen2 : ¬ (l.length : Int) = (m.length : Int) := by omega
  have hlen3 : ((l.length : Int) != (m.length : Int)) = true := by simpa using hlen2
  go_wp2_with fail
  go_ret
  exact ⟨by rw [HE.out] <;> rfl, Below.refl _ _⟩
 case pos =>
 have hlen2 : (l.length : Int) = (m.length : Int) := by omega
 have hlen3 : ((l.length : Int) != (m.length : Int)) = false := by simpa using hlen2
 have HLEN := Lib.hid hlen
 clear hlen
 go_wp2_with fail
 clear hlen3 hlen2
 go_loopw [15] (fun i wr => ∃ k : Nat, i = .int .i64 (k : Int) ∧ k ≤ l.length ∧ Hid (sameL sVer (l.drop k) (m.drop k) = res) ∧ Hid (Below w.heap.size w wr)) (fun i _ => l.length - (intOf i).toNat)
 case atStart => exact ⟨0, rfl, Nat.zero_le _, Lib.hid HRES.out.symm, Lib.hid (Below.refl _ _)⟩
 case round =>
  obtain ⟨k, rfl, hk, HG, HB⟩ := hrel
  obtain ⟨wi, rfl⟩ : ∃ wi : World, wi = wr := ⟨_, rfl⟩
  by_cases hlt : k < l.length
  case neg =>
   have hlt3 : ¬ (k : Int) < (l.length : Int) := by omega
   have hlt5 : ¬ (k : Int) < (m.length : Int) := by have := HLEN.out; omega
   have HE : Hid (res = true) := Lib.hid (by have := HLEN.out; rw [← HG.out]; exact sameL_end (by omega) (by omega))
   go_wp2_with fail
   go_ret
   exact ⟨by rw [HE.out] <;> rfl, HB.out⟩
  case pos =>
   have hlt' : k < m.length := by have := HLEN.out; omega
   have hlt3 : (k : Int) < (l.length : Int) := by omega
   have hlt4 : (k : Int) < (m.length : Int) := by omega
   obtain ⟨b, off, rfl, hF, hcx, hx⟩ := RdVs.at_ (HV.out.below HB.out) hlt
   obtain ⟨b', off', rfl, hF', hcy, hy⟩ := RdVs.at_ (HU.out.below HB.out) hlt'
   have hg := HG.out
   rw [sameL_at hlt hlt'] at hg
   obtain ⟨x, hxe⟩ : ∃ x, x = l[k] := ⟨_, rfl⟩
   obtain ⟨y, hye⟩ : ∃ y, y = m[k] := ⟨_, rfl⟩
   rw [← hxe] at hcx hg hx
   rw [← hye] at hcy hg hy
   obtain ⟨bo, hbo⟩ : ∃ bo, bo = sVer x y := ⟨_, rfl⟩
   rw [← hbo] at hg
   have HG2 := Lib.hid hg
   clear hxe hye hg HG
   obtain ⟨⟨x1, x2, xA, xn, xc, x3, x4, x5, x6, x7, x8⟩, xv⟩ := x
   obtain ⟨⟨y1, y2, yA, yn, yc, y3, y4, y5, y6, y7, y8⟩, yv⟩ := y
   have g0 : wi.cell? ⟨b, off + k * 9, none⟩ = some (.int .i64 x1) := hcx 0 _ (by decide) rfl
   have g1 : wi.cell? ⟨b, off + k * 9 + 1, none⟩ = some (.int .i64 x2) := hcx 1 _ (by decide) rfl
   have g2 : wi.cell? ⟨b, off + k * 9 + 2, none⟩ = some (.slice xA xn xc) := hcx 2 _ (by decide) rfl
   have g3 : wi.cell? ⟨b, off + k * 9 + 3, none⟩ = some (.int .i64 x3) := hcx 3 _ (by decide) rfl
   have g4 : wi.cell? ⟨b, off + k * 9 + 4, none⟩ = some (.int .i64 x4) := hcx 4 _ (by decide) rfl
   have g5 : wi.cell? ⟨b, off + k * 9 + 5, none⟩ = some (.int .i64 x5) := hcx 5 _ (by decide) rfl
   have g6 : wi.cell? ⟨b, off + k * 9 + 6, none⟩ = some (.int .i64 x6) := hcx 6 _ (by decide) rfl
   have g7 : wi.cell? ⟨b, off + k * 9 + 7, none⟩ = some (.int .i64 x7) := hcx 7 _ (by decide) rfl
   have g8 : wi.cell? ⟨b, off + k * 9 + 8, none⟩ = some (.int .i64 x8) := hcx 8 _ (by decide) rfl
   have h0 : wi.cell? ⟨b', off' + k * 9, none⟩ = some (.int .i64 y1) := hcy 0 _ (by decide) rfl
   have h1 : wi.cell? ⟨b', off' + k * 9 + 1, none⟩ = some (.int .i64 y2) := hcy 1 _ (by decide) rfl
   have h2 : wi.cell? ⟨b', off' + k * 9 + 2, none⟩ = some (.slice yA yn yc) := hcy 2 _ (by decide) rfl
   have h3 : wi.cell? ⟨b', off' + k * 9 + 3, none⟩ = some (.int .i64 y3) := hcy 3 _ (by decide) rfl
   have h4 : wi.cell? ⟨b', off' + k * 9 + 4, none⟩ = some (.int .i64 y4) := hcy 4 _ (by decide) rfl
   have h5 : wi.cell? ⟨b', off' + k * 9 + 5, none⟩ = some (.int .i64 y5) := hcy 5 _ (by decide) rfl
   have h6 : wi.cell? ⟨b', off' + k * 9 + 6, none⟩ = some (.int .i64 y6) := hcy 6 _ (by decide) rfl
   have h7 : wi.cell? ⟨b', off' + k * 9 + 7, none⟩ = some (.int .i64 y7) := hcy 7 _ (by decide) rfl
   have h8 : wi.cell? ⟨b', off' + k * 9 + 8, none⟩ = some (.int .i64 y8) := hcy 8 _ (by decide) rfl
   have HRX : Hid (bo = (decide (x1 = y1) && (decide (x2 = y2) && (decide (x3 = y3) && (decide (x4 = y4) && (decide (x5 = y5) && (decide (x6 = y6) && (decide (x7 = y7) && (decide (x8 = y8) && (sameL sVal xv.row yv.row)))))))))) := Lib.hid hbo
   clear hcx hcy hbo
   have KS : ∀ (V : World), Below wi.heap.size wi V → Calls Tryz.prog 179 #[.slice xA xn xc, .slice yA yn yc] V (fun e w' => e = .returned (.bool (sameL sVal xv.row yv.row)) ∧ Below V.heap.size V w') := fun V hV => likeRow_any _ _ xv.row yv.row V (RdE.below (K := 3) (enc := Val.cells) hx.row hV) (RdE.below (K := 3) (enc := Val.cells) hy.row hV)
   obtain ⟨vc, hvc⟩ : ∃ bo, bo = sameL sVal xv.row yv.row := ⟨_, rfl⟩
   rw [← hvc] at HRX
   simp only [← hvc] at KS
   have hbx : Below wi.heap.size wi ((wi.alloc (.cells #[.int .i64 x1, .int .i64 x2, .slice xA xn xc, .int .i64 x3, .int .i64 x4, .int .i64 x5, .int .i64 x6, .int .i64 x7, .int .i64 x8] 167)).alloc (.cells #[.int .i64 y1, .int .i64 y2, .slice yA yn yc, .int .i64 y3, .int .i64 y4, .int .i64 y5, .int .i64 y6, .int .i64 y7, .int .i64 y8] 167)) := (Below.of_alloc _).alloc (by simp) _
   have HBX : Hid (Below w.heap.size w ((wi.alloc (.cells #[.int .i64 x1, .int .i64 x2, .slice xA xn xc, .int .i64 x3, .int .i64 x4, .int .i64 x5, .int .i64 x6, .int .i64 x7, .int .i64 x8] 167)).alloc (.cells #[.int .i64 y1, .int .i64 y2, .slice yA yn yc, .int .i64 y3, .int .i64 y4, .int .i64 y5, .int .i64 y6, .int .i64 y7, .int .i64 y8] 167))) := Lib.hid (HB.out.trans (hbx.mono HB.out.size))
   clear hvc hx hy
   by_cases tt56 : x1 = y1
   case neg =>
    have gg56 : Hid (decide (x1 = y1) = false) := Lib.hid (decide_eq_false tt56)
    have ee56 : (x1 == y1) = false := by simpa using tt56
    have ff56 : (x1 != y1) = true := by simpa using tt56
    have HF : Hid (bo = false) := Lib.hid (by rw [HRX.out, gg56.out] <;> first | rfl | (simp; done))
    have HE : Hid (res = false) := Lib.hid (by rw [← HG2.out, HF.out]; rfl)
    go_wp2_with fail
    go_ret
    exact ⟨by rw [HE.out] <;> rfl, HBX.out⟩
   case pos =>
    have GG56 : Hid (decide (x1 = y1) = true) := Lib.hid (decide_eq_true tt56)
    have ee56 : (x1 == y1) = true := by simpa using tt56
    have ff56 : (x1 != y1) = false := by simpa using tt56
    clear tt56
    by_cases tt57 : x2 = y2
    case neg =>
     have gg57 : Hid (decide (x2 = y2) = false) := Lib.hid (decide_eq_false tt57)
     have ee57 : (x2 == y2) = false := by simpa using tt57
     have ff57 : (x2 != y2) = true := by simpa using tt57
     have HF : Hid (bo = false) := Lib.hid (by rw [HRX.out, GG56.out, gg57.out] <;> first | rfl | (simp; done))
     have HE : Hid (res = false) := Lib.hid (by rw [← HG2.out, HF.out]; rfl)
     go_wp2_with fail
     go_ret
     exact ⟨by rw [HE.out] <;> rfl, HBX.out⟩
    case pos =>
     have GG57 : Hid (decide (x2 = y2) = true) := Lib.hid (decide_eq_true tt57)
     have ee57 : (x2 == y2) = true := by simpa using tt57
     have ff57 : (x2 != y2) = false := by simpa using tt57
     clear tt57
     by_cases tt58 : x3 = y3
     case neg =>
      have gg58 : Hid (decide (x3 = y3) = false) := Lib.hid (decide_eq_false tt58)
      have ee58 : (x3 == y3) = false := by simpa using tt58
      have ff58 : (x3 != y3) = true := by simpa using tt58
      have HF : Hid (bo = false) := Lib.hid (by rw [HRX.out, GG56.out, GG57.out, gg58.out] <;> first | rfl | (simp; done))
      have HE : Hid (res = false) := Lib.hid (by rw [← HG2.out, HF.out]; rfl)
      go_wp2_with fail
      go_ret
      exact ⟨by rw [HE.out] <;> rfl, HBX.out⟩
     case pos =>
      have GG58 : Hid (decide (x3 = y3) = true) := Lib.hid (decide_eq_true tt58)
      have ee58 : (x3 == y3) = true := by simpa using tt58
      have ff58 : (x3 != y3) = false := by simpa using tt58
      clear tt58
      by_cases tt59 : x4 = y4
      case neg =>
       have gg59 : Hid (decide (x4 = y4) = false) := Lib.hid (decide_eq_false tt59)
       have ee59 : (x4 == y4) = false := by simpa using tt59
       have ff59 : (x4 != y4) = true := by simpa using tt59
       have HF : Hid (bo = false) := Lib.hid (by rw [HRX.out, GG56.out, GG57.out, GG58.out, gg59.out] <;> first | rfl | (simp; done))
       have HE : Hid (res = false) := Lib.hid (by rw [← HG2.out, HF.out]; rfl)
       go_wp2_with fail
       go_ret
       exact ⟨by rw [HE.out] <;> rfl, HBX.out⟩
      case pos =>
       have GG59 : Hid (decide (x4 = y4) = true) := Lib.hid (decide_eq_true tt59)
       have ee59 : (x4 == y4) = true := by simpa using tt59
       have ff59 : (x4 != y4) = false := by simpa using tt59
       clear tt59
       by_cases tt60 : x5 = y5
       case neg =>
        have gg60 : Hid (decide (x5 = y5) = false) := Lib.hid (decide_eq_false tt60)
        have ee60 : (x5 == y5) = false := by simpa using tt60
        have ff60 : (x5 != y5) = true := by simpa using tt60
        have HF : Hid (bo = false) := Lib.hid (by rw [HRX.out, GG56.out, GG57.out, GG58.out, GG59.out, gg60.out] <;> first | rfl | (simp; done))
        have HE : Hid (res = false) := Lib.hid (by rw [← HG2.out, HF.out]; rfl)
        go_wp2_with fail
        go_ret
        exact ⟨by rw [HE.out] <;> rfl, HBX.out⟩
       case pos =>
        have GG60 : Hid (decide (x5 = y5) = true) := Lib.hid (decide_eq_true tt60)
        have ee60 : (x5 == y5) = true := by simpa using tt60
        have ff60 : (x5 != y5) = false := by simpa using tt60
        clear tt60
        by_cases tt61 : x6 = y6
        case neg =>
         have gg61 : Hid (decide (x6 = y6) = false) := Lib.hid (decide_eq_false tt61)
         have ee61 : (x6 == y6) = false := by simpa using tt61
         have ff61 : (x6 != y6) = true := by simpa using tt61
         have HF : Hid (bo = false) := Lib.hid (by rw [HRX.out, GG56.out, GG57.out, GG58.out, GG59.out, GG60.out, gg61.out] <;> first | rfl | (simp; done))
         have HE : Hid (res = false) := Lib.hid (by rw [← HG2.out, HF.out]; rfl)
         go_wp2_with fail
         go_ret
         exact ⟨by rw [HE.out] <;> rfl, HBX.out⟩
        case pos =>
         have GG61 : Hid (decide (x6 = y6) = true) := Lib.hid (decide_eq_true tt61)
         have ee61 : (x6 == y6) = true := by simpa using tt61
         have ff61 : (x6 != y6) = false := by simpa using tt61
         clear tt61
         by_cases tt62 : x7 = y7
         case neg =>
          have gg62 : Hid (decide (x7 = y7) = false) := Lib.hid (decide_eq_false tt62)
          have ee62 : (x7 == y7) = false := by simpa using tt62
          have ff62 : (x7 != y7) = true := by simpa using tt62
          have HF : Hid (bo = false) := Lib.hid (by rw [HRX.out, GG56.out, GG57.out, GG58.out, GG59.out, GG60.out, GG61.out, gg62.out] <;> first | rfl | (simp; done))
          have HE : Hid (res = false) := Lib.hid (by rw [← HG2.out, HF.out]; rfl)
          go_wp2_with fail
          go_ret
          exact ⟨by rw [HE.out] <;> rfl, HBX.out⟩
         case pos =>
          have GG62 : Hid (decide (x7 = y7) = true) := Lib.hid (decide_eq_true tt62)
          have ee62 : (x7 == y7) = true := by simpa using tt62
          have ff62 : (x7 != y7) = false := by simpa using tt62
          clear tt62
          by_cases tt63 : x8 = y8
          case neg =>
           have gg63 : Hid (decide (x8 = y8) = false) := Lib.hid (decide_eq_false tt63)
           have ee63 : (x8 == y8) = false := by simpa using tt63
           have ff63 : (x8 != y8) = true := by simpa using tt63
           have HF : Hid (bo = false) := Lib.hid (by rw [HRX.out, GG56.out, GG57.out, GG58.out, GG59.out, GG60.out, GG61.out, GG62.out, gg63.out] <;> first | rfl | (simp; done))
           have HE : Hid (res = false) := Lib.hid (by rw [← HG2.out, HF.out]; rfl)
           go_wp2_with fail
           go_ret
           exact ⟨by rw [HE.out] <;> rfl, HBX.out⟩
          case pos =>
           have GG63 : Hid (decide (x8 = y8) = true) := Lib.hid (decide_eq_true tt63)
           have ee63 : (x8 == y8) = true := by simpa using tt63
           have ff63 : (x8 != y8) = false := by simpa using tt63
           clear tt63
           cases vc
           case false =>
            have HF : Hid (bo = false) := Lib.hid (by rw [HRX.out, GG56.out, GG57.out, GG58.out, GG59.out, GG60.out, GG61.out, GG62.out, GG63.out] <;> first | rfl | (simp; done))
            have HE : Hid (res = false) := Lib.hid (by rw [← HG2.out, HF.out]; rfl)
            go_wp2_with fail
            (with_reducible refine (KS _ hbx).mono ?_)
            rintro _ w2 ⟨rfl, hb2⟩
            have HB2 : Hid (Below w.heap.size w w2) := Lib.hid (HBX.out.trans (hb2.mono HBX.out.size))
            clear hb2
            go_wp2_with fail
            go_ret
            exact ⟨by rw [HE.out] <;> rfl, HB2.out⟩
           case true =>
            have HF : Hid (bo = true) := Lib.hid (by rw [HRX.out, GG56.out, GG57.out, GG58.out, GG59.out, GG60.out, GG61.out, GG62.out, GG63.out] <;> first | rfl | (simp; done))
            have HN : Hid (sameL sVer (l.drop (k + 1)) (m.drop (k + 1)) = res) := Lib.hid (by rw [← HG2.out, HF.out]; simp)
            go_wp2_with fail
            (with_reducible refine (KS _ hbx).mono ?_)
            rintro _ w2 ⟨rfl, hb2⟩
            have HB2 : Hid (Below w.heap.size w w2) := Lib.hid (HBX.out.trans (hb2.mono HBX.out.size))
            clear hb2
            go_wp2_with fail
            go_roundw
            case rel => exact ⟨k + 1, by go_num, hlt, HN, HB2⟩
            case measure => simp [intOf]; omega
set_option maxRecDepth 1000000 in
set_option maxHeartbeats 16000000 in
theorem refSame_any (x y : RCm) (w : World) (hx : x.is w (· < w.heap.size)) (hy : y.is w (· < w.heap.size)) (kx : ∀ n ∈ x.ents, ∀ e ∈ n.create.chks, exAll w (· < w.heap.size) e) (ky : ∀ n ∈ y.ents, ∀ e ∈ n.create.chks, exAll w (· < w.heap.size) e) :
  Calls Tryz.prog 19 #[.agg (RCm.enc x).toArray, .agg (RCm.enc y).toArray] w fun e w' => e = .returned (.bool (sCm x y)) ∧ Below w.heap.size w w' := by
 obtain ⟨xtx, xtm, xwl, xfi, xeA, xeC, xents, xdA, xdC, xdels, xpA, xpC, xpla, xrA, xrC, xrel, xqA, xqC, xpol, xhA, xhC, xhor⟩ := x
 obtain ⟨ytx, ytm, ywl, yfi, yeA, yeC, yents, ydA, ydC, ydels, ypA, ypC, ypla, yrA, yrC, yrel, yqA, yqC, ypol, yhA, yhC, yhor⟩ := y
 obtain ⟨rs, hrs⟩ : ∃ r, r = sCm ⟨xtx, xtm, xwl, xfi, xeA, xeC, xents, xdA, xdC, xdels, xpA, xpC, xpla, xrA, xrC, xrel, xqA, xqC, xpol, xhA, xhC, xhor⟩ ⟨ytx, ytm, ywl, yfi, yeA, yeC, yents, ydA, ydC, ydels, ypA, ypC, ypla, yrA, yrC, yrel, yqA, yqC, ypol, yhA, yhC, yhor⟩ := ⟨_, rfl⟩
 rw [← hrs]
 show Calls Tryz.prog 19 #[.agg #[.int .i64 xtx, .int .i64 xtm, .int .i64 xwl, .int .i64 xfi, .slice xeA xents.length xeC, .slice xdA xdels.length xdC, .slice xpA xpla.length xpC, .slice xrA xrel.length xrC, .slice xqA xpol.length xqC, .slice xhA xhor.length xhC], .agg #[.int .i64 ytx, .int .i64 ytm, .int .i64 ywl, .int .i64 yfi, .slice yeA yents.length yeC, .slice ydA ydels.length ydC, .slice ypA ypla.length ypC, .slice yrA yrel.length yrC, .slice yqA ypol.length yqC, .slice yhA yhor.length yhC]] w _
 have HR : Hid (rs = (decide (xtx = ytx) && (decide (xtm = ytm) && (decide (xwl = ywl) && (decide (xfi = yfi) && (sameL sDel xdels ydels && (sameL eqS xrel yrel && (sameL sEnt xents yents && (sameL sHld xpla ypla && (sameL sPol xpol ypol && sameL sHor xhor yhor)))))))))) := Lib.hid (by rw [hrs]; simp only [sCm]; ac_rfl)
 clear hrs
 have f1 : RdE 3 RDl.enc w (· < w.heap.size) (.slice xdA xdels.length xdC) xdels := hx.dels
 have g1 : RdE 3 RDl.enc w (· < w.heap.size) (.slice ydA ydels.length ydC) ydels := hy.dels
 have q1 := RdE.bd f1
 have r1 := RdE.bd g1
 have Hx1 := Lib.hid f1
 have Hy1 := Lib.hid g1
 have f2 : RdE 1 strE w (· < w.heap.size) (.slice xrA xrel.length xrC) xrel := hx.rel
 have g2 : RdE 1 strE w (· < w.heap.size) (.slice yrA yrel.length yrC) yrel := hy.rel
 have q2 := RdE.bd f2
 have r2 := RdE.bd g2
 have Hx2 := Lib.hid f2
 have Hy2 := Lib.hid g2
 have HXI := Lib.hid hx
 have HYI := Lib.hid hy
 obtain ⟨v1, hv1⟩ : ∃ bo, bo = sameL sDel xdels ydels := ⟨_, rfl⟩
 rw [← hv1] at HR
 have Hv1 := Lib.hid hv1
 clear hv1
 obtain ⟨v2, hv2⟩ : ∃ bo, bo = sameL eqS xrel yrel := ⟨_, rfl⟩
 rw [← hv2] at HR
 have Hv2 := Lib.hid hv2
 clear hv2
 obtain ⟨v5, hv5⟩ : ∃ bo, bo = (sameL sEnt xents yents) := ⟨_, rfl⟩
 have K5 := fun (V : World) (hV : Below w.heap.size w V) => refSameEntries_any _ _ xents yents V (hx.below hV).ents (hy.below hV).ents (hx.below hV).entI (hy.below hV).entI (fun n hn e he => (kx n hn e he).blw hV) (fun n hn e he => (ky n hn e he).blw hV)
 rw [← hv5] at K5 HR
 clear hv5
 obtain ⟨v6, hv6⟩ : ∃ bo, bo = (sameL sHld xpla ypla && (sameL sPol xpol ypol && sameL sHor xhor yhor)) := ⟨_, rfl⟩
 have K6 := fun (V : World) (hV : Below w.heap.size w V) => refSameRules_any _ _ _ _ _ _ xpla ypla xpol ypol xhor yhor V (hx.below hV).pla (hy.below hV).pla (hx.below hV).pol (hy.below hV).pol (hx.below hV).hor (hy.below hV).hor
 rw [← hv6] at K6 HR
 clear hv6
 clear hx hy kx ky f1 f2 g1 g2
 obtain ⟨W, hW⟩ : ∃ W, W = (w.alloc (.cells #[.int .i64 xtx, .int .i64 xtm, .int .i64 xwl, .int .i64 xfi, .slice xeA xents.length xeC, .slice xdA xdels.length xdC, .slice xpA xpla.length xpC, .slice xrA xrel.length xrC, .slice xqA xpol.length xqC, .slice xhA xhor.length xhC] 29)).alloc (.cells #[.int .i64 ytx, .int .i64 ytm, .int .i64 ywl, .int .i64 yfi, .slice yeA yents.length yeC, .slice ydA ydels.length ydC, .slice ypA ypla.length ypC, .slice yrA yrel.length yrC, .slice yqA ypol.length yqC, .slice yhA yhor.length yhC] 29) := ⟨_, rfl⟩
 have hbW : Below w.heap.size w W := by rw [hW]; exact (Below.of_alloc _).alloc (by simp) _
 have hWs : w.heap.size + 1 < W.heap.size := by rw [hW]; simp
 have hT : W.heap[w.heap.size]? = some (.cells #[.int .i64 xtx, .int .i64 xtm, .int .i64 xwl, .int .i64 xfi, .slice xeA xents.length xeC, .slice xdA xdels.length xdC, .slice xpA xpla.length xpC, .slice xrA xrel.length xrC, .slice xqA xpol.length xqC, .slice xhA xhor.length xhC] 29 (0, 0)) := by
  rw [hW]
  exact ((Below.of_alloc (w := w.alloc (.cells #[.int .i64 xtx, .int .i64 xtm, .int .i64 xwl, .int .i64 xfi, .slice xeA xents.length xeC, .slice xdA xdels.length xdC, .slice xpA xpla.length xpC, .slice xrA xrel.length xrC, .slice xqA xpol.length xqC, .slice xhA xhor.length xhC] 29)) (.cells #[.int .i64 ytx, .int .i64 ytm, .int .i64 ywl, .int .i64 yfi, .slice yeA yents.length yeC, .slice ydA ydels.length ydC, .slice ypA ypla.length ypC, .slice yrA yrel.length yrC, .slice yqA ypol.length yqC, .slice yhA yhor.length yhC] 29)).block _ (by simp)).trans (heap_alloc_new _ _)
 have hU : W.heap[w.heap.size + 1]? = some (.cells #[.int .i64 ytx, .int .i64 ytm, .int .i64 ywl, .int .i64 yfi, .slice yeA yents.length yeC, .slice ydA ydels.length ydC, .slice ypA ypla.length ypC, .slice yrA yrel.length yrC, .slice yqA ypol.length yqC, .slice yhA yhor.length yhC] 29 (0, 0)) := by
  rw [hW]
  have h := heap_alloc_new (w.alloc (.cells #[.int .i64 xtx, .int .i64 xtm, .int .i64 xwl, .int .i64 xfi, .slice xeA xents.length xeC, .slice xdA xdels.length xdC, .slice xpA xpla.length xpC, .slice xrA xrel.length xrC, .slice xqA xpol.length xqC, .slice xhA xhor.length xhC] 29)) (.cells #[.int .i64 ytx, .int .i64 ytm, .int .i64 ywl, .int .i64 yfi, .slice yeA yents.length yeC, .slice ydA ydels.length ydC, .slice ypA ypla.length ypC, .slice yrA yrel.length yrC, .slice yqA ypol.length yqC, .slice yhA yhor.length yhC] 29)
  simpa using h
 have FX : Hid (∀ V, Below W.heap.size W V → V.heap[w.heap.size]? = some (.cells #[.int .i64 xtx, .int .i64 xtm, .int .i64 xwl, .int .i64 xfi, .slice xeA xents.length xeC, .slice xdA xdels.length xdC, .slice xpA xpla.length xpC, .slice xrA xrel.length xrC, .slice xqA xpol.length xqC, .slice xhA xhor.length xhC] 29 (0, 0))) := Lib.hid (fun V hV => (hV.block _ (by omega)).trans hT)
 have FY : Hid (∀ V, Below W.heap.size W V → V.heap[w.heap.size + 1]? = some (.cells #[.int .i64 ytx, .int .i64 ytm, .int .i64 ywl, .int .i64 yfi, .slice yeA yents.length yeC, .slice ydA ydels.length ydC, .slice ypA ypla.length ypC, .slice yrA yrel.length yrC, .slice yqA ypol.length yqC, .slice yhA yhor.length yhC] 29 (0, 0))) := Lib.hid (fun V hV => (hV.block _ hWs).trans hU)
 have HBW := Lib.hid hbW
 have HC0 : Hid (Below W.heap.size W W) := Lib.hid (Below.refl _ _)
 have HW := Lib.hid hW
 clear hT hU hbW hWs hW
 have c0 : W.cell? ⟨w.heap.size, 0, none⟩ = some (.int .i64 xtx) := cell_of_row W _ 0 _ _ _ (FX.out _ HC0.out)
 have c1 : W.cell? ⟨w.heap.size, 1, none⟩ = some (.int .i64 xtm) := cell_of_row W _ 1 _ _ _ (FX.out _ HC0.out)
 have c2 : W.cell? ⟨w.heap.size, 2, none⟩ = some (.int .i64 xwl) := cell_of_row W _ 2 _ _ _ (FX.out _ HC0.out)
 have c3 : W.cell? ⟨w.heap.size, 3, none⟩ = some (.int .i64 xfi) := cell_of_row W _ 3 _ _ _ (FX.out _ HC0.out)
 have c4 : W.cell? ⟨w.heap.size, 4, none⟩ = some (.slice xeA xents.length xeC) := cell_of_row W _ 4 _ _ _ (FX.out _ HC0.out)
 have c5 : W.cell? ⟨w.heap.size, 5, none⟩ = some (.slice xdA xdels.length xdC) := cell_of_row W _ 5 _ _ _ (FX.out _ HC0.out)
 have c6 : W.cell? ⟨w.heap.size, 6, none⟩ = some (.slice xpA xpla.length xpC) := cell_of_row W _ 6 _ _ _ (FX.out _ HC0.out)
 have c7 : W.cell? ⟨w.heap.size, 7, none⟩ = some (.slice xrA xrel.length xrC) := cell_of_row W _ 7 _ _ _ (FX.out _ HC0.out)
 have c8 : W.cell? ⟨w.heap.size, 8, none⟩ = some (.slice xqA xpol.length xqC) := cell_of_row W _ 8 _ _ _ (FX.out _ HC0.out)
 have c9 : W.cell? ⟨w.heap.size, 9, none⟩ = some (.slice xhA xhor.length xhC) := cell_of_row W _ 9 _ _ _ (FX.out _ HC0.out)
 have d0 : W.cell? ⟨w.heap.size + 1, 0, none⟩ = some (.int .i64 ytx) := cell_of_row W _ 0 _ _ _ (FY.out _ HC0.out)
 have d1 : W.cell? ⟨w.heap.size + 1, 1, none⟩ = some (.int .i64 ytm) := cell_of_row W _ 1 _ _ _ (FY.out _ HC0.out)
 have d2 : W.cell? ⟨w.heap.size + 1, 2, none⟩ = some (.int .i64 ywl) := cell_of_row W _ 2 _ _ _ (FY.out _ HC0.out)
 have d3 : W.cell? ⟨w.heap.size + 1, 3, none⟩ = some (.int .i64 yfi) := cell_of_row W _ 3 _ _ _ (FY.out _ HC0.out)
 have d4 : W.cell? ⟨w.heap.size + 1, 4, none⟩ = some (.slice yeA yents.length yeC) := cell_of_row W _ 4 _ _ _ (FY.out _ HC0.out)
 have d5 : W.cell? ⟨w.heap.size + 1, 5, none⟩ = some (.slice ydA ydels.length ydC) := cell_of_row W _ 5 _ _ _ (FY.out _ HC0.out)
 have d6 : W.cell? ⟨w.heap.size + 1, 6, none⟩ = some (.slice ypA ypla.length ypC) := cell_of_row W _ 6 _ _ _ (FY.out _ HC0.out)
 have d7 : W.cell? ⟨w.heap.size + 1, 7, none⟩ = some (.slice yrA yrel.length yrC) := cell_of_row W _ 7 _ _ _ (FY.out _ HC0.out)
 have d8 : W.cell? ⟨w.heap.size + 1, 8, none⟩ = some (.slice yqA ypol.length yqC) := cell_of_row W _ 8 _ _ _ (FY.out _ HC0.out)
 have d9 : W.cell? ⟨w.heap.size + 1, 9, none⟩ = some (.slice yhA yhor.length yhC) := cell_of_row W _ 9 _ _ _ (FY.out _ HC0.out)
 by_cases tt64 : xtx = ytx
 case neg =>
  have gg64 : decide (xtx = ytx) = false := decide_eq_false tt64
  have ee64 : (xtx == ytx) = false := by simpa using tt64
  have ff64 : (xtx != ytx) = true := by simpa using tt64
  have HF : Hid (rs = false) := Lib.hid (by rw [HR.out, gg64] <;> simp)
  go_enter Tryz.func19, Tryz.ntmps19
  go_wp2_with fail
  try rw [← HW.out]
  go_ret
  exact ⟨by rw [HF.out] <;> first | rfl | (simp; done), (HBW.out.trans (HC0.out.mono HBW.out.size))⟩
 case pos =>
  have GG64 : Hid (decide (xtx = ytx) = true) := Lib.hid (decide_eq_true tt64)
  have ee64 : (xtx == ytx) = true := by simpa using tt64
  have ff64 : (xtx != ytx) = false := by simpa using tt64
  clear tt64
  by_cases tt65 : xtm = ytm
  case neg =>
   have gg65 : decide (xtm = ytm) = false := decide_eq_false tt65
   have ee65 : (xtm == ytm) = false := by simpa using tt65
   have ff65 : (xtm != ytm) = true := by simpa using tt65
   have HF : Hid (rs = false) := Lib.hid (by rw [HR.out, gg65] <;> simp)
   go_enter Tryz.func19, Tryz.ntmps19
   go_wp2_with fail
   try rw [← HW.out]
   go_ret
   exact ⟨by rw [HF.out] <;> first | rfl | (simp; done), (HBW.out.trans (HC0.out.mono HBW.out.size))⟩
  case pos =>
   have GG65 : Hid (decide (xtm = ytm) = true) := Lib.hid (decide_eq_true tt65)
   have ee65 : (xtm == ytm) = true := by simpa using tt65
   have ff65 : (xtm != ytm) = false := by simpa using tt65
   clear tt65
   by_cases tt66 : xwl = ywl
   case neg =>
    have gg66 : decide (xwl = ywl) = false := decide_eq_false tt66
    have ee66 : (xwl == ywl) = false := by simpa using tt66
    have ff66 : (xwl != ywl) = true := by simpa using tt66
    have HF : Hid (rs = false) := Lib.hid (by rw [HR.out, gg66] <;> simp)
    go_enter Tryz.func19, Tryz.ntmps19
    go_wp2_with fail
    try rw [← HW.out]
    go_ret
    exact ⟨by rw [HF.out] <;> first | rfl | (simp; done), (HBW.out.trans (HC0.out.mono HBW.out.size))⟩
   case pos =>
    have GG66 : Hid (decide (xwl = ywl) = true) := Lib.hid (decide_eq_true tt66)
    have ee66 : (xwl == ywl) = true := by simpa using tt66
    have ff66 : (xwl != ywl) = false := by simpa using tt66
    clear tt66
    by_cases tt67 : xfi = yfi
    case neg =>
     have gg67 : decide (xfi = yfi) = false := decide_eq_false tt67
     have ee67 : (xfi == yfi) = false := by simpa using tt67
     have ff67 : (xfi != yfi) = true := by simpa using tt67
     have HF : Hid (rs = false) := Lib.hid (by rw [HR.out, gg67] <;> simp)
     go_enter Tryz.func19, Tryz.ntmps19
     go_wp2_with fail
     try rw [← HW.out]
     go_ret
     exact ⟨by rw [HF.out] <;> first | rfl | (simp; done), (HBW.out.trans (HC0.out.mono HBW.out.size))⟩
    case pos =>
     have GG67 : Hid (decide (xfi = yfi) = true) := Lib.hid (decide_eq_true tt67)
     have ee67 : (xfi == yfi) = true := by simpa using tt67
     have ff67 : (xfi != yfi) = false := by simpa using tt67
     clear tt67
     by_cases tt68 : xdels.length = ydels.length
     case neg =>
      have gg68 : v1 = false := by rw [Hv1.out]; exact sameL_len tt68
      have ss68 : ¬ (xdels.length : Int) = (ydels.length : Int) := by omega
      have ff68 : ((xdels.length : Int) != (ydels.length : Int)) = true := by simpa using ss68
      have HF : Hid (rs = false) := Lib.hid (by rw [HR.out, gg68] <;> simp)
      go_enter Tryz.func19, Tryz.ntmps19
      go_wp2_with fail
      try rw [← HW.out]
      go_ret
      exact ⟨by rw [HF.out] <;> first | rfl | (simp; done), (HBW.out.trans (HC0.out.mono HBW.out.size))⟩
     case pos =>
      have HL1 := Lib.hid tt68
      have ss68 : (xdels.length : Int) = (ydels.length : Int) := by omega
      have ff68 : ((xdels.length : Int) != (ydels.length : Int)) = false := by simpa using ss68
      clear tt68 ss68
      by_cases tt69 : xrel.length = yrel.length
      case neg =>
       have gg69 : v2 = false := by rw [Hv2.out]; exact sameL_len tt69
       have ss69 : ¬ (xrel.length : Int) = (yrel.length : Int) := by omega
       have ff69 : ((xrel.length : Int) != (yrel.length : Int)) = true := by simpa using ss69
       have HF : Hid (rs = false) := Lib.hid (by rw [HR.out, gg69] <;> simp)
       go_enter Tryz.func19, Tryz.ntmps19
       go_wp2_with fail
       try rw [← HW.out]
       go_ret
       exact ⟨by rw [HF.out] <;> first | rfl | (simp; done), (HBW.out.trans (HC0.out.mono HBW.out.size))⟩
      case pos =>
       have HL2 := Lib.hid tt69
       have ss69 : (xrel.length : Int) = (yrel.length : Int) := by omega
       have ff69 : ((xrel.length : Int) != (yrel.length : Int)) = false := by simpa using ss69
       clear tt69 ss69
       go_enter Tryz.func19, Tryz.ntmps19
       go_wp2_with fail
       try rw [← HW.out]
       clear c0 d0 c1 d1 c2 d2 c3 d3 c4 d4 c5 d5 c6 d6 c7 d7 c8 d8 c9 d9
       go_loopw [54] (fun i wr => ∃ k : Nat, i = .int .i64 (k : Int) ∧ k ≤ xdels.length ∧ Hid (sameL sDel (xdels.drop k) (ydels.drop k) = v1) ∧ Hid (Below W.heap.size W wr)) (fun i _ => xdels.length - (intOf i).toNat)
       case atStart => exact ⟨0, rfl, Nat.zero_le _, Lib.hid Hv1.out.symm, HC0⟩
       case round =>
        obtain ⟨k, rfl, hk, HG, HB70⟩ := hrel
        obtain ⟨wi70, rfl⟩ : ∃ wi : World, wi = wr := ⟨_, rfl⟩
        by_cases hlt : k < xdels.length
        case neg =>
         have hlt3 : ¬ (k : Int) < (xdels.length : Int) := by omega
         have HT70 : Hid (v1 = true) := Lib.hid (by rw [← HG.out]; exact sameL_end (by omega) (by have := HL1.out; omega))
         have c0 : wi70.cell? ⟨w.heap.size, 0, none⟩ = some (.int .i64 xtx) := cell_of_row wi70 _ 0 _ _ _ (FX.out _ HB70.out)
         have c1 : wi70.cell? ⟨w.heap.size, 1, none⟩ = some (.int .i64 xtm) := cell_of_row wi70 _ 1 _ _ _ (FX.out _ HB70.out)
         have c2 : wi70.cell? ⟨w.heap.size, 2, none⟩ = some (.int .i64 xwl) := cell_of_row wi70 _ 2 _ _ _ (FX.out _ HB70.out)
         have c3 : wi70.cell? ⟨w.heap.size, 3, none⟩ = some (.int .i64 xfi) := cell_of_row wi70 _ 3 _ _ _ (FX.out _ HB70.out)
         have c4 : wi70.cell? ⟨w.heap.size, 4, none⟩ = some (.slice xeA xents.length xeC) := cell_of_row wi70 _ 4 _ _ _ (FX.out _ HB70.out)
         have c5 : wi70.cell? ⟨w.heap.size, 5, none⟩ = some (.slice xdA xdels.length xdC) := cell_of_row wi70 _ 5 _ _ _ (FX.out _ HB70.out)
         have c6 : wi70.cell? ⟨w.heap.size, 6, none⟩ = some (.slice xpA xpla.length xpC) := cell_of_row wi70 _ 6 _ _ _ (FX.out _ HB70.out)
         have c7 : wi70.cell? ⟨w.heap.size, 7, none⟩ = some (.slice xrA xrel.length xrC) := cell_of_row wi70 _ 7 _ _ _ (FX.out _ HB70.out)
         have c8 : wi70.cell? ⟨w.heap.size, 8, none⟩ = some (.slice xqA xpol.length xqC) := cell_of_row wi70 _ 8 _ _ _ (FX.out _ HB70.out)
         have c9 : wi70.cell? ⟨w.heap.size, 9, none⟩ = some (.slice xhA xhor.length xhC) := cell_of_row wi70 _ 9 _ _ _ (FX.out _ HB70.out)
         have d0 : wi70.cell? ⟨w.heap.size + 1, 0, none⟩ = some (.int .i64 ytx) := cell_of_row wi70 _ 0 _ _ _ (FY.out _ HB70.out)
         have d1 : wi70.cell? ⟨w.heap.size + 1, 1, none⟩ = some (.int .i64 ytm) := cell_of_row wi70 _ 1 _ _ _ (FY.out _ HB70.out)
         have d2 : wi70.cell? ⟨w.heap.size + 1, 2, none⟩ = some (.int .i64 ywl) := cell_of_row wi70 _ 2 _ _ _ (FY.out _ HB70.out)
         have d3 : wi70.cell? ⟨w.heap.size + 1, 3, none⟩ = some (.int .i64 yfi) := cell_of_row wi70 _ 3 _ _ _ (FY.out _ HB70.out)
         have d4 : wi70.cell? ⟨w.heap.size + 1, 4, none⟩ = some (.slice yeA yents.length yeC) := cell_of_row wi70 _ 4 _ _ _ (FY.out _ HB70.out)
         have d5 : wi70.cell? ⟨w.heap.size + 1, 5, none⟩ = some (.slice ydA ydels.length ydC) := cell_of_row wi70 _ 5 _ _ _ (FY.out _ HB70.out)
         have d6 : wi70.cell? ⟨w.heap.size + 1, 6, none⟩ = some (.slice ypA ypla.length ypC) := cell_of_row wi70 _ 6 _ _ _ (FY.out _ HB70.out)
         have d7 : wi70.cell? ⟨w.heap.size + 1, 7, none⟩ = some (.slice yrA yrel.length yrC) := cell_of_row wi70 _ 7 _ _ _ (FY.out _ HB70.out)
         have d8 : wi70.cell? ⟨w.heap.size + 1, 8, none⟩ = some (.slice yqA ypol.length yqC) := cell_of_row wi70 _ 8 _ _ _ (FY.out _ HB70.out)
         have d9 : wi70.cell? ⟨w.heap.size + 1, 9, none⟩ = some (.slice yhA yhor.length yhC) := cell_of_row wi70 _ 9 _ _ _ (FY.out _ HB70.out)
         go_wp2_with fail
         clear c0 d0 c1 d1 c2 d2 c3 d3 c4 d4 c5 d5 c6 d6 c7 d7 c8 d8 c9 d9
         go_loopw [73] (fun i wr => ∃ k : Nat, i = .int .i64 (k : Int) ∧ k ≤ xrel.length ∧ Hid (sameL eqS (xrel.drop k) (yrel.drop k) = v2) ∧ Hid (Below W.heap.size W wr)) (fun i _ => xrel.length - (intOf i).toNat)
         case atStart => exact ⟨0, rfl, Nat.zero_le _, Lib.hid Hv2.out.symm, HB70⟩
         case round =>
          obtain ⟨k, rfl, hk, HG, HB71⟩ := hrel
          obtain ⟨wi71, rfl⟩ : ∃ wi : World, wi = wr := ⟨_, rfl⟩
          by_cases hlt : k < xrel.length
          case neg =>
           have hlt3 : ¬ (k : Int) < (xrel.length : Int) := by omega
           have HT71 : Hid (v2 = true) := Lib.hid (by rw [← HG.out]; exact sameL_end (by omega) (by have := HL2.out; omega))
           have c0 : wi71.cell? ⟨w.heap.size, 0, none⟩ = some (.int .i64 xtx) := cell_of_row wi71 _ 0 _ _ _ (FX.out _ HB71.out)
           have c1 : wi71.cell? ⟨w.heap.size, 1, none⟩ = some (.int .i64 xtm) := cell_of_row wi71 _ 1 _ _ _ (FX.out _ HB71.out)
           have c2 : wi71.cell? ⟨w.heap.size, 2, none⟩ = some (.int .i64 xwl) := cell_of_row wi71 _ 2 _ _ _ (FX.out _ HB71.out)
           have c3 : wi71.cell? ⟨w.heap.size, 3, none⟩ = some (.int .i64 xfi) := cell_of_row wi71 _ 3 _ _ _ (FX.out _ HB71.out)
           have c4 : wi71.cell? ⟨w.heap.size, 4, none⟩ = some (.slice xeA xents.length xeC) := cell_of_row wi71 _ 4 _ _ _ (FX.out _ HB71.out)
           have c5 : wi71.cell? ⟨w.heap.size, 5, none⟩ = some (.slice xdA xdels.length xdC) := cell_of_row wi71 _ 5 _ _ _ (FX.out _ HB71.out)
           have c6 : wi71.cell? ⟨w.heap.size, 6, none⟩ = some (.slice xpA xpla.length xpC) := cell_of_row wi71 _ 6 _ _ _ (FX.out _ HB71.out)
           have c7 : wi71.cell? ⟨w.heap.size, 7, none⟩ = some (.slice xrA xrel.length xrC) := cell_of_row wi71 _ 7 _ _ _ (FX.out _ HB71.out)
           have c8 : wi71.cell? ⟨w.heap.size, 8, none⟩ = some (.slice xqA xpol.length xqC) := cell_of_row wi71 _ 8 _ _ _ (FX.out _ HB71.out)
           have c9 : wi71.cell? ⟨w.heap.size, 9, none⟩ = some (.slice xhA xhor.length xhC) := cell_of_row wi71 _ 9 _ _ _ (FX.out _ HB71.out)
           have d0 : wi71.cell? ⟨w.heap.size + 1, 0, none⟩ = some (.int .i64 ytx) := cell_of_row wi71 _ 0 _ _ _ (FY.out _ HB71.out)
           have d1 : wi71.cell? ⟨w.heap.size + 1, 1, none⟩ = some (.int .i64 ytm) := cell_of_row wi71 _ 1 _ _ _ (FY.out _ HB71.out)
           have d2 : wi71.cell? ⟨w.heap.size + 1, 2, none⟩ = some (.int .i64 ywl) := cell_of_row wi71 _ 2 _ _ _ (FY.out _ HB71.out)
           have d3 : wi71.cell? ⟨w.heap.size + 1, 3, none⟩ = some (.int .i64 yfi) := cell_of_row wi71 _ 3 _ _ _ (FY.out _ HB71.out)
           have d4 : wi71.cell? ⟨w.heap.size + 1, 4, none⟩ = some (.slice yeA yents.length yeC) := cell_of_row wi71 _ 4 _ _ _ (FY.out _ HB71.out)
           have d5 : wi71.cell? ⟨w.heap.size + 1, 5, none⟩ = some (.slice ydA ydels.length ydC) := cell_of_row wi71 _ 5 _ _ _ (FY.out _ HB71.out)
           have d6 : wi71.cell? ⟨w.heap.size + 1, 6, none⟩ = some (.slice ypA ypla.length ypC) := cell_of_row wi71 _ 6 _ _ _ (FY.out _ HB71.out)
           have d7 : wi71.cell? ⟨w.heap.size + 1, 7, none⟩ = some (.slice yrA yrel.length yrC) := cell_of_row wi71 _ 7 _ _ _ (FY.out _ HB71.out)
           have d8 : wi71.cell? ⟨w.heap.size + 1, 8, none⟩ = some (.slice yqA ypol.length yqC) := cell_of_row wi71 _ 8 _ _ _ (FY.out _ HB71.out)
           have d9 : wi71.cell? ⟨w.heap.size + 1, 9, none⟩ = some (.slice yhA yhor.length yhC) := cell_of_row wi71 _ 9 _ _ _ (FY.out _ HB71.out)
           have KK72 := K5 wi71 (HBW.out.trans (HB71.out.mono HBW.out.size))
           go_wp2_with fail
           (with_reducible refine KK72.mono ?_)
           rintro _ z72 ⟨rfl, hz72⟩
           clear KK72
           have HC72 : Hid (Below W.heap.size W z72) := Lib.hid (HB71.out.trans (hz72.mono HB71.out.size))
           clear hz72
           clear c0 d0 c1 d1 c2 d2 c3 d3 c4 d4 c5 d5 c6 d6 c7 d7 c8 d8 c9 d9
           have c0 : z72.cell? ⟨w.heap.size, 0, none⟩ = some (.int .i64 xtx) := cell_of_row z72 _ 0 _ _ _ (FX.out _ HC72.out)
           have c1 : z72.cell? ⟨w.heap.size, 1, none⟩ = some (.int .i64 xtm) := cell_of_row z72 _ 1 _ _ _ (FX.out _ HC72.out)
           have c2 : z72.cell? ⟨w.heap.size, 2, none⟩ = some (.int .i64 xwl) := cell_of_row z72 _ 2 _ _ _ (FX.out _ HC72.out)
           have c3 : z72.cell? ⟨w.heap.size, 3, none⟩ = some (.int .i64 xfi) := cell_of_row z72 _ 3 _ _ _ (FX.out _ HC72.out)
           have c4 : z72.cell? ⟨w.heap.size, 4, none⟩ = some (.slice xeA xents.length xeC) := cell_of_row z72 _ 4 _ _ _ (FX.out _ HC72.out)
           have c5 : z72.cell? ⟨w.heap.size, 5, none⟩ = some (.slice xdA xdels.length xdC) := cell_of_row z72 _ 5 _ _ _ (FX.out _ HC72.out)
           have c6 : z72.cell? ⟨w.heap.size, 6, none⟩ = some (.slice xpA xpla.length xpC) := cell_of_row z72 _ 6 _ _ _ (FX.out _ HC72.out)
           have c7 : z72.cell? ⟨w.heap.size, 7, none⟩ = some (.slice xrA xrel.length xrC) := cell_of_row z72 _ 7 _ _ _ (FX.out _ HC72.out)
           have c8 : z72.cell? ⟨w.heap.size, 8, none⟩ = some (.slice xqA xpol.length xqC) := cell_of_row z72 _ 8 _ _ _ (FX.out _ HC72.out)
           have c9 : z72.cell? ⟨w.heap.size, 9, none⟩ = some (.slice xhA xhor.length xhC) := cell_of_row z72 _ 9 _ _ _ (FX.out _ HC72.out)
           have d0 : z72.cell? ⟨w.heap.size + 1, 0, none⟩ = some (.int .i64 ytx) := cell_of_row z72 _ 0 _ _ _ (FY.out _ HC72.out)
           have d1 : z72.cell? ⟨w.heap.size + 1, 1, none⟩ = some (.int .i64 ytm) := cell_of_row z72 _ 1 _ _ _ (FY.out _ HC72.out)
           have d2 : z72.cell? ⟨w.heap.size + 1, 2, none⟩ = some (.int .i64 ywl) := cell_of_row z72 _ 2 _ _ _ (FY.out _ HC72.out)
           have d3 : z72.cell? ⟨w.heap.size + 1, 3, none⟩ = some (.int .i64 yfi) := cell_of_row z72 _ 3 _ _ _ (FY.out _ HC72.out)
           have d4 : z72.cell? ⟨w.heap.size + 1, 4, none⟩ = some (.slice yeA yents.length yeC) := cell_of_row z72 _ 4 _ _ _ (FY.out _ HC72.out)
           have d5 : z72.cell? ⟨w.heap.size + 1, 5, none⟩ = some (.slice ydA ydels.length ydC) := cell_of_row z72 _ 5 _ _ _ (FY.out _ HC72.out)
           have d6 : z72.cell? ⟨w.heap.size + 1, 6, none⟩ = some (.slice ypA ypla.length ypC) := cell_of_row z72 _ 6 _ _ _ (FY.out _ HC72.out)
           have d7 : z72.cell? ⟨w.heap.size + 1, 7, none⟩ = some (.slice yrA yrel.length yrC) := cell_of_row z72 _ 7 _ _ _ (FY.out _ HC72.out)
           have d8 : z72.cell? ⟨w.heap.size + 1, 8, none⟩ = some (.slice yqA ypol.length yqC) := cell_of_row z72 _ 8 _ _ _ (FY.out _ HC72.out)
           have d9 : z72.cell? ⟨w.heap.size + 1, 9, none⟩ = some (.slice yhA yhor.length yhC) := cell_of_row z72 _ 9 _ _ _ (FY.out _ HC72.out)
           cases v5
           case false =>
            have HF : Hid (rs = false) := Lib.hid (by rw [HR.out] <;> simp)
            go_wp2_with fail
            go_ret
            exact ⟨by rw [HF.out] <;> first | rfl | (simp; done), (HBW.out.trans (HC72.out.mono HBW.out.size))⟩
           case true =>
            have KK73 := K6 z72 (HBW.out.trans (HC72.out.mono HBW.out.size))
            go_wp2_with fail
            (with_reducible refine KK73.mono ?_)
            rintro _ z73 ⟨rfl, hz73⟩
            clear KK73
            have HC73 : Hid (Below W.heap.size W z73) := Lib.hid (HC72.out.trans (hz73.mono HC72.out.size))
            clear hz73
            clear c0 d0 c1 d1 c2 d2 c3 d3 c4 d4 c5 d5 c6 d6 c7 d7 c8 d8 c9 d9
            have c0 : z73.cell? ⟨w.heap.size, 0, none⟩ = some (.int .i64 xtx) := cell_of_row z73 _ 0 _ _ _ (FX.out _ HC73.out)
            have c1 : z73.cell? ⟨w.heap.size, 1, none⟩ = some (.int .i64 xtm) := cell_of_row z73 _ 1 _ _ _ (FX.out _ HC73.out)
            have c2 : z73.cell? ⟨w.heap.size, 2, none⟩ = some (.int .i64 xwl) := cell_of_row z73 _ 2 _ _ _ (FX.out _ HC73.out)
            have c3 : z73.cell? ⟨w.heap.size, 3, none⟩ = some (.int .i64 xfi) := cell_of_row z73 _ 3 _ _ _ (FX.out _ HC73.out)
            have c4 : z73.cell? ⟨w.heap.size, 4, none⟩ = some (.slice xeA xents.length xeC) := cell_of_row z73 _ 4 _ _ _ (FX.out _ HC73.out)
            have c5 : z73.cell? ⟨w.heap.size, 5, none⟩ = some (.slice xdA xdels.length xdC) := cell_of_row z73 _ 5 _ _ _ (FX.out _ HC73.out)
            have c6 : z73.cell? ⟨w.heap.size, 6, none⟩ = some (.slice xpA xpla.length xpC) := cell_of_row z73 _ 6 _ _ _ (FX.out _ HC73.out)
            have c7 : z73.cell? ⟨w.heap.size, 7, none⟩ = some (.slice xrA xrel.length xrC) := cell_of_row z73 _ 7 _ _ _ (FX.out _ HC73.out)
            have c8 : z73.cell? ⟨w.heap.size, 8, none⟩ = some (.slice xqA xpol.length xqC) := cell_of_row z73 _ 8 _ _ _ (FX.out _ HC73.out)
            have c9 : z73.cell? ⟨w.heap.size, 9, none⟩ = some (.slice xhA xhor.length xhC) := cell_of_row z73 _ 9 _ _ _ (FX.out _ HC73.out)
            have d0 : z73.cell? ⟨w.heap.size + 1, 0, none⟩ = some (.int .i64 ytx) := cell_of_row z73 _ 0 _ _ _ (FY.out _ HC73.out)
            have d1 : z73.cell? ⟨w.heap.size + 1, 1, none⟩ = some (.int .i64 ytm) := cell_of_row z73 _ 1 _ _ _ (FY.out _ HC73.out)
            have d2 : z73.cell? ⟨w.heap.size + 1, 2, none⟩ = some (.int .i64 ywl) := cell_of_row z73 _ 2 _ _ _ (FY.out _ HC73.out)
            have d3 : z73.cell? ⟨w.heap.size + 1, 3, none⟩ = some (.int .i64 yfi) := cell_of_row z73 _ 3 _ _ _ (FY.out _ HC73.out)
            have d4 : z73.cell? ⟨w.heap.size + 1, 4, none⟩ = some (.slice yeA yents.length yeC) := cell_of_row z73 _ 4 _ _ _ (FY.out _ HC73.out)
            have d5 : z73.cell? ⟨w.heap.size + 1, 5, none⟩ = some (.slice ydA ydels.length ydC) := cell_of_row z73 _ 5 _ _ _ (FY.out _ HC73.out)
            have d6 : z73.cell? ⟨w.heap.size + 1, 6, none⟩ = some (.slice ypA ypla.length ypC) := cell_of_row z73 _ 6 _ _ _ (FY.out _ HC73.out)
            have d7 : z73.cell? ⟨w.heap.size + 1, 7, none⟩ = some (.slice yrA yrel.length yrC) := cell_of_row z73 _ 7 _ _ _ (FY.out _ HC73.out)
            have d8 : z73.cell? ⟨w.heap.size + 1, 8, none⟩ = some (.slice yqA ypol.length yqC) := cell_of_row z73 _ 8 _ _ _ (FY.out _ HC73.out)
            have d9 : z73.cell? ⟨w.heap.size + 1, 9, none⟩ = some (.slice yhA yhor.length yhC) := cell_of_row z73 _ 9 _ _ _ (FY.out _ HC73.out)
            cases v6
            case false =>
             have HF : Hid (rs = false) := Lib.hid (by rw [HR.out] <;> simp)
             go_wp2_with fail
             go_ret
             exact ⟨by rw [HF.out] <;> first | rfl | (simp; done), (HBW.out.trans (HC73.out.mono HBW.out.size))⟩
            case true =>
             have HF : Hid (rs = true) := Lib.hid (by rw [HR.out, GG64.out, GG65.out, GG66.out, GG67.out, HT70.out, HT71.out] <;> first | rfl | (simp; done))
             go_wp2_with fail
             go_ret
             exact ⟨by rw [HF.out] <;> first | rfl | (simp; done), (HBW.out.trans (HC73.out.mono HBW.out.size))⟩
          case pos =>
           have hlt' : k < yrel.length := by have := HL2.out; omega
           have hlt3 : (k : Int) < (xrel.length : Int) := by omega
           have hlt4 : (k : Int) < (yrel.length : Int) := by omega
           obtain ⟨b, off, rfl, hF, hcl⟩ := RdE.at_ (K := 1) (enc := strE) (fun _ => rfl) (by omega) Hx2.out hlt
           obtain ⟨b', off', rfl, hF', hcl'⟩ := RdE.at_ (K := 1) (enc := strE) (fun _ => rfl) (by omega) Hy2.out hlt'
           have HBL := Lib.hid hF
           have HBM := Lib.hid hF'
           have hcx := hcl k hlt
           have hcy := hcl' k hlt'
           have hg := HG.out
           rw [sameL_at hlt hlt'] at hg
           have ha := List.getElem_mem hlt
           have hb := List.getElem_mem hlt'
           obtain ⟨x, hx⟩ : ∃ x, x = xrel[k] := ⟨_, rfl⟩
           obtain ⟨y, hy⟩ : ∃ y, y = yrel[k] := ⟨_, rfl⟩
           rw [← hx] at hcx hg ha
           rw [← hy] at hcy hg hb
           obtain ⟨bo, hbo⟩ : ∃ bo, bo = eqS x y := ⟨_, rfl⟩
           rw [← hbo] at hg
           have HG2 := Lib.hid hg
           clear hx hy hcl hcl' hF hF' hg HG
           obtain ⟨x1, hx1⟩ : ∃ z, z = x := ⟨_, rfl⟩
           obtain ⟨y1, hy1⟩ : ∃ z, z = y := ⟨_, rfl⟩
           subst hx1; subst hy1
           have g0 : w.cell? ⟨b, off + k, none⟩ = some (.string x1) := by have h := hcx 0 (.string x1) (by decide) rfl; rw [Nat.mul_one, Nat.add_zero] at h; exact h
           have h0 : w.cell? ⟨b', off' + k, none⟩ = some (.string y1) := by have h := hcy 0 (.string y1) (by decide) rfl; rw [Nat.mul_one, Nat.add_zero] at h; exact h
           have HRX : Hid (bo = (eqS x1 y1)) := Lib.hid hbo
           clear hcx hcy hbo
           clear ha hb
           go_wp2_with fail
           refine wp_region_noPanic ?_
           refine wp_region_held_drew (S := (fun w' => Below W.heap.size W w')) (by kernel_rfl) ?_ (fun hHeld => ?_)
           ·exact HB71.out.drew
           refine heldTake 0 (some 76) (v := ?_) rfl rfl (by kernel_rfl) (by kernel_rfl) (by kernel_rfl) (by rfl) hHeld (fun _ _ _ h => h) ?_ ?_
           rotate_left
           ·intro w' hSw; (try dsimp only at hSw); go_simp <;> with_reducible rfl
           simp only [Act.put, List.setIfInBounds_toArray, List.set_cons_zero, List.set_cons_succ]
           refine heldTake 1 (some 77) (v := ?_) rfl rfl (by kernel_rfl) (by kernel_rfl) (by kernel_rfl) (by rfl) hHeld (fun _ _ _ h => h) ?_ ?_
           rotate_left
           ·intro w' hSw; (try dsimp only at hSw); have q0 := cell_of_row w' _ 7 _ _ _ (FX.out _ hSw); go_simp <;> with_reducible rfl
           simp only [Act.put, List.setIfInBounds_toArray, List.set_cons_zero, List.set_cons_succ]
           refine heldTake 2 (some 78) (v := ?_) rfl rfl (by kernel_rfl) (by kernel_rfl) (by kernel_rfl) (by rfl) hHeld (fun _ _ _ h => h) ?_ ?_
           rotate_left
           ·intro w' hSw; (try dsimp only at hSw); go_simp <;> with_reducible rfl
           simp only [Act.put, List.setIfInBounds_toArray, List.set_cons_zero, List.set_cons_succ]
           refine heldTake 3 (some 79) (v := ?_) rfl rfl (by kernel_rfl) (by kernel_rfl) (by kernel_rfl) (by rfl) hHeld (fun _ _ _ h => h) ?_ ?_
           rotate_left
           ·intro w' hSw; (try dsimp only at hSw); go_simp <;> with_reducible rfl
           simp only [Act.put, List.setIfInBounds_toArray, List.set_cons_zero, List.set_cons_succ]
           refine heldTake 4 (some 80) (v := ?_) rfl rfl (by kernel_rfl) (by kernel_rfl) (by kernel_rfl) (by rfl) hHeld (fun _ _ _ h => h) ?_ ?_
           rotate_left
           ·intro w' hSw; (try dsimp only at hSw); have q0 : w'.cell? ⟨b, off + k, none⟩ = some (.string x1) := (World.cell?_of_block ((HBW.out.trans (hSw.mono HBW.out.size)).block _ HBL.out)).trans g0; go_simp <;> with_reducible rfl
           simp only [Act.put, List.setIfInBounds_toArray, List.set_cons_zero, List.set_cons_succ]
           refine heldTake 5 (some 81) (v := ?_) rfl rfl (by kernel_rfl) (by kernel_rfl) (by kernel_rfl) (by rfl) hHeld (fun _ _ _ h => h) ?_ ?_
           rotate_left
           ·intro w' hSw; (try dsimp only at hSw); go_simp <;> with_reducible rfl
           simp only [Act.put, List.setIfInBounds_toArray, List.set_cons_zero, List.set_cons_succ]
           refine heldTake 6 (some 82) (v := ?_) rfl rfl (by kernel_rfl) (by kernel_rfl) (by kernel_rfl) (by rfl) hHeld (fun _ _ _ h => h) ?_ ?_
           rotate_left
           ·intro w' hSw; (try dsimp only at hSw); have q0 := cell_of_row w' _ 7 _ _ _ (FY.out _ hSw); go_simp <;> with_reducible rfl
           simp only [Act.put, List.setIfInBounds_toArray, List.set_cons_zero, List.set_cons_succ]
           refine heldTake 7 (some 83) (v := ?_) rfl rfl (by kernel_rfl) (by kernel_rfl) (by kernel_rfl) (by rfl) hHeld (fun _ _ _ h => h) ?_ ?_
           rotate_left
           ·intro w' hSw; (try dsimp only at hSw); go_simp <;> with_reducible rfl
           simp only [Act.put, List.setIfInBounds_toArray, List.set_cons_zero, List.set_cons_succ]
           refine heldTake 8 (some 84) (v := ?_) rfl rfl (by kernel_rfl) (by kernel_rfl) (by kernel_rfl) (by rfl) hHeld (fun _ _ _ h => h) ?_ ?_
           rotate_left
           ·intro w' hSw; (try dsimp only at hSw); go_simp <;> with_reducible rfl
           simp only [Act.put, List.setIfInBounds_toArray, List.set_cons_zero, List.set_cons_succ]
           refine heldTake 9 (some 85) (v := ?_) rfl rfl (by kernel_rfl) (by kernel_rfl) (by kernel_rfl) (by rfl) hHeld (fun _ _ _ h => h) ?_ ?_
           rotate_left
           ·intro w' hSw; (try dsimp only at hSw); have q0 : w'.cell? ⟨b', off' + k, none⟩ = some (.string y1) := (World.cell?_of_block ((HBW.out.trans (hSw.mono HBW.out.size)).block _ HBM.out)).trans h0; go_simp <;> with_reducible rfl
           simp only [Act.put, List.setIfInBounds_toArray, List.set_cons_zero, List.set_cons_succ]
           cases ee74 : (x1.toList == y1.toList)
           case false =>
            have gg74 : Hid (eqS x1 y1 = false) := Lib.hid ee74
            have ff74 : (x1.toList != y1.toList) = true := by rw [bne, ee74]; rfl
            have HF : Hid (bo = false) := Lib.hid (by rw [HRX.out, gg74.out] <;> first | rfl | (simp; done))
            have HE : Hid (v2 = false) := Lib.hid (by rw [← HG2.out, HF.out]; rfl)
            have HFR : Hid (rs = false) := Lib.hid (by rw [HR.out, HE.out] <;> simp)
            refine heldTake 10 (some 86) (v := ?_) rfl rfl (by kernel_rfl) (by kernel_rfl) (by kernel_rfl) (by rfl) hHeld (fun _ _ _ h => h) ?_ ?_
            rotate_left
            ·intro w' hSw; (try dsimp only at hSw); go_simp <;> with_reducible rfl
            simp only [Act.put, List.setIfInBounds_toArray, List.set_cons_zero, List.set_cons_succ]
            refine wpAnyH_done (by kernel_rfl) ?_ _
            refine NoPanic.normal ?_
            have HZ : Hid (Below W.heap.size W _) := Lib.hid hHeld
            go_wp2_with fail
            go_ret
            exact ⟨by rw [HFR.out] <;> rfl, (HBW.out.trans (HZ.out.mono HBW.out.size))⟩
           case true =>
            have GG74 : Hid (eqS x1 y1 = true) := Lib.hid ee74
            have ff74 : (x1.toList != y1.toList) = false := by rw [bne, ee74]; rfl
            refine heldTake 10 (some 86) (v := ?_) rfl rfl (by kernel_rfl) (by kernel_rfl) (by kernel_rfl) (by rfl) hHeld (fun _ _ _ h => h) ?_ ?_
            rotate_left
            ·intro w' hSw; (try dsimp only at hSw); go_simp <;> with_reducible rfl
            simp only [Act.put, List.setIfInBounds_toArray, List.set_cons_zero, List.set_cons_succ]
            refine wpAnyH_done (by kernel_rfl) ?_ _
            refine NoPanic.normal ?_
            have HF : Hid (bo = true) := Lib.hid (by rw [HRX.out, GG74.out] <;> first | rfl | (simp; done))
            have HN : Hid (sameL eqS (xrel.drop (k + 1)) (yrel.drop (k + 1)) = v2) := Lib.hid (by rw [← HG2.out, HF.out]; simp)
            have HZ : Hid (Below W.heap.size W _) := Lib.hid hHeld
            go_wp2_with fail
            go_roundw
            case rel => exact ⟨k + 1, by go_num, hlt, HN, HZ⟩
            case measure => simp [intOf]; omega
        case pos =>
         have hlt' : k < ydels.length := by have := HL1.out; omega
         have hlt3 : (k : Int) < (xdels.length : Int) := by omega
         have hlt4 : (k : Int) < (ydels.length : Int) := by omega
         obtain ⟨b, off, rfl, hF, hcl⟩ := RdE.at_ (K := 3) (enc := RDl.enc) (fun _ => rfl) (by omega) Hx1.out hlt
         obtain ⟨b', off', rfl, hF', hcl'⟩ := RdE.at_ (K := 3) (enc := RDl.enc) (fun _ => rfl) (by omega) Hy1.out hlt'
         have HBL := Lib.hid hF
         have HBM := Lib.hid hF'
         have hcx := hcl k hlt
         have hcy := hcl' k hlt'
         have hg := HG.out
         rw [sameL_at hlt hlt'] at hg
         have ha := List.getElem_mem hlt
         have hb := List.getElem_mem hlt'
         obtain ⟨x, hx⟩ : ∃ x, x = xdels[k] := ⟨_, rfl⟩
         obtain ⟨y, hy⟩ : ∃ y, y = ydels[k] := ⟨_, rfl⟩
         rw [← hx] at hcx hg ha
         rw [← hy] at hcy hg hb
         obtain ⟨bo, hbo⟩ : ∃ bo, bo = sDel x y := ⟨_, rfl⟩
         rw [← hbo] at hg
         have HG2 := Lib.hid hg
         clear hx hy hcl hcl' hF hF' hg HG
         obtain ⟨xn, xcA, xcc, xcl, xoA, xoc, xops⟩ := x
         obtain ⟨yn, ycA, ycc, ycl, yoA, yoc, yops⟩ := y
         have g0 : w.cell? ⟨b, off + k * 3, none⟩ = some (.string xn) := hcx 0 _ (by decide) rfl
         have g1 : w.cell? ⟨b, off + k * 3 + 1, none⟩ = some (.slice xcA xcl.length xcc) := hcx 1 _ (by decide) rfl
         have g2 : w.cell? ⟨b, off + k * 3 + 2, none⟩ = some (.slice xoA xops.length xoc) := hcx 2 _ (by decide) rfl
         have h0 : w.cell? ⟨b', off' + k * 3, none⟩ = some (.string yn) := hcy 0 _ (by decide) rfl
         have h1 : w.cell? ⟨b', off' + k * 3 + 1, none⟩ = some (.slice ycA ycl.length ycc) := hcy 1 _ (by decide) rfl
         have h2 : w.cell? ⟨b', off' + k * 3 + 2, none⟩ = some (.slice yoA yops.length yoc) := hcy 2 _ (by decide) rfl
         have HRX : Hid (bo = (sDel ⟨xn, xcA, xcc, xcl, xoA, xoc, xops⟩ ⟨yn, ycA, ycc, ycl, yoA, yoc, yops⟩)) := Lib.hid hbo
         clear hcx hcy hbo
         have KC : ∀ (V : World), Below w.heap.size w V → Calls Tryz.prog 84 #[.agg #[.string xn, .slice xcA xcl.length xcc, .slice xoA xops.length xoc], .agg #[.string yn, .slice ycA ycl.length ycc, .slice yoA yops.length yoc]] V (fun e w' => e = .returned (.bool (sDel ⟨xn, xcA, xcc, xcl, xoA, xoc, xops⟩ ⟨yn, ycA, ycc, ycl, yoA, yoc, yops⟩)) ∧ Below V.heap.size V w') := fun V hV => refSameDelta_any ⟨xn, xcA, xcc, xcl, xoA, xoc, xops⟩ ⟨yn, ycA, ycc, ycl, yoA, yoc, yops⟩ V ((HXI.out.delI _ ha).below hV) ((HYI.out.delI _ hb).below hV)
         obtain ⟨vc, hvc⟩ : ∃ bo, bo = sDel ⟨xn, xcA, xcc, xcl, xoA, xoc, xops⟩ ⟨yn, ycA, ycc, ycl, yoA, yoc, yops⟩ := ⟨_, rfl⟩
         rw [← hvc] at HRX
         simp only [← hvc] at KC
         clear hvc
         clear ha hb
         go_wp2_with fail
         refine wp_region_noPanic ?_
         refine wp_region_held_drew (S := (fun w' => Below W.heap.size W w')) (by kernel_rfl) ?_ (fun hHeld => ?_)
         ·exact HB70.out.drew
         refine heldTake 0 (some 57) (v := ?_) rfl rfl (by kernel_rfl) (by kernel_rfl) (by kernel_rfl) (by rfl) hHeld (fun _ _ _ h => h) ?_ ?_
         rotate_left
         ·intro w' hSw; (try dsimp only at hSw); go_simp <;> with_reducible rfl
         simp only [Act.put, List.setIfInBounds_toArray, List.set_cons_zero, List.set_cons_succ]
         refine heldTake 1 (some 58) (v := ?_) rfl rfl (by kernel_rfl) (by kernel_rfl) (by kernel_rfl) (by rfl) hHeld (fun _ _ _ h => h) ?_ ?_
         rotate_left
         ·intro w' hSw; (try dsimp only at hSw); have q0 := cell_of_row w' _ 5 _ _ _ (FX.out _ hSw); go_simp <;> with_reducible rfl
         simp only [Act.put, List.setIfInBounds_toArray, List.set_cons_zero, List.set_cons_succ]
         refine heldTake 2 (some 59) (v := ?_) rfl rfl (by kernel_rfl) (by kernel_rfl) (by kernel_rfl) (by rfl) hHeld (fun _ _ _ h => h) ?_ ?_
         rotate_left
         ·intro w' hSw; (try dsimp only at hSw); go_simp <;> with_reducible rfl
         simp only [Act.put, List.setIfInBounds_toArray, List.set_cons_zero, List.set_cons_succ]
         refine heldTake 3 (some 60) (v := ?_) rfl rfl (by kernel_rfl) (by kernel_rfl) (by kernel_rfl) (by rfl) hHeld (fun _ _ _ h => h) ?_ ?_
         rotate_left
         ·intro w' hSw; (try dsimp only at hSw); go_simp <;> with_reducible rfl
         simp only [Act.put, List.setIfInBounds_toArray, List.set_cons_zero, List.set_cons_succ]
         refine heldTake 4 (some 61) (v := ?_) rfl rfl (by kernel_rfl) (by kernel_rfl) (by kernel_rfl) (by rfl) hHeld (fun _ _ _ h => h) ?_ ?_
         rotate_left
         ·intro w' hSw; (try dsimp only at hSw); have q0 : w'.cell? ⟨b, off + k * 3, none⟩ = some (.string xn) := (World.cell?_of_block ((HBW.out.trans (hSw.mono HBW.out.size)).block _ HBL.out)).trans g0; have q1 : w'.cell? ⟨b, off + k * 3 + 1, none⟩ = some (.slice xcA xcl.length xcc) := (World.cell?_of_block ((HBW.out.trans (hSw.mono HBW.out.size)).block _ HBL.out)).trans g1; have q2 : w'.cell? ⟨b, off + k * 3 + 2, none⟩ = some (.slice xoA xops.length xoc) := (World.cell?_of_block ((HBW.out.trans (hSw.mono HBW.out.size)).block _ HBL.out)).trans g2; go_simp <;> with_reducible rfl
         simp only [Act.put, List.setIfInBounds_toArray, List.set_cons_zero, List.set_cons_succ]
         refine heldTake 5 (some 62) (v := ?_) rfl rfl (by kernel_rfl) (by kernel_rfl) (by kernel_rfl) (by rfl) hHeld (fun _ _ _ h => h) ?_ ?_
         rotate_left
         ·intro w' hSw; (try dsimp only at hSw); go_simp <;> with_reducible rfl
         simp only [Act.put, List.setIfInBounds_toArray, List.set_cons_zero, List.set_cons_succ]
         refine heldTake 6 (some 63) (v := ?_) rfl rfl (by kernel_rfl) (by kernel_rfl) (by kernel_rfl) (by rfl) hHeld (fun _ _ _ h => h) ?_ ?_
         rotate_left
         ·intro w' hSw; (try dsimp only at hSw); have q0 := cell_of_row w' _ 5 _ _ _ (FY.out _ hSw); go_simp <;> with_reducible rfl
         simp only [Act.put, List.setIfInBounds_toArray, List.set_cons_zero, List.set_cons_succ]
         refine heldTake 7 (some 64) (v := ?_) rfl rfl (by kernel_rfl) (by kernel_rfl) (by kernel_rfl) (by rfl) hHeld (fun _ _ _ h => h) ?_ ?_
         rotate_left
         ·intro w' hSw; (try dsimp only at hSw); go_simp <;> with_reducible rfl
         simp only [Act.put, List.setIfInBounds_toArray, List.set_cons_zero, List.set_cons_succ]
         refine heldTake 8 (some 65) (v := ?_) rfl rfl (by kernel_rfl) (by kernel_rfl) (by kernel_rfl) (by rfl) hHeld (fun _ _ _ h => h) ?_ ?_
         rotate_left
         ·intro w' hSw; (try dsimp only at hSw); go_simp <;> with_reducible rfl
         simp only [Act.put, List.setIfInBounds_toArray, List.set_cons_zero, List.set_cons_succ]
         refine heldTake 9 (some 66) (v := ?_) rfl rfl (by kernel_rfl) (by kernel_rfl) (by kernel_rfl) (by rfl) hHeld (fun _ _ _ h => h) ?_ ?_
         rotate_left
         ·intro w' hSw; (try dsimp only at hSw); have q0 : w'.cell? ⟨b', off' + k * 3, none⟩ = some (.string yn) := (World.cell?_of_block ((HBW.out.trans (hSw.mono HBW.out.size)).block _ HBM.out)).trans h0; have q1 : w'.cell? ⟨b', off' + k * 3 + 1, none⟩ = some (.slice ycA ycl.length ycc) := (World.cell?_of_block ((HBW.out.trans (hSw.mono HBW.out.size)).block _ HBM.out)).trans h1; have q2 : w'.cell? ⟨b', off' + k * 3 + 2, none⟩ = some (.slice yoA yops.length yoc) := (World.cell?_of_block ((HBW.out.trans (hSw.mono HBW.out.size)).block _ HBM.out)).trans h2; go_simp <;> with_reducible rfl
         simp only [Act.put, List.setIfInBounds_toArray, List.set_cons_zero, List.set_cons_succ]
         cases vc
         case false =>
          have HF : Hid (bo = false) := Lib.hid (by rw [HRX.out] <;> first | rfl | (simp; done))
          have HE : Hid (v1 = false) := Lib.hid (by rw [← HG2.out, HF.out]; rfl)
          have HFR : Hid (rs = false) := Lib.hid (by rw [HR.out, HE.out] <;> simp)
          refine heldCall 10 (some 67) (f := ?_) (args := ?_) rfl rfl (by kernel_rfl) (by rfl) ?_ ?_
          rotate_left 2
          ·go_simp <;> first | (constructor <;> with_reducible rfl) | with_reducible rfl
          (with_reducible refine (KC _ (HBW.out.trans (hHeld.mono HBW.out.size))).mono ?_)
          rintro _ z ⟨rfl, hz⟩
          refine ⟨_, rfl, keepAnd ?_ (fun hNew => ?_)⟩
          ·exact Below.trans hHeld (hz.mono hHeld.size)
          clear hHeld
          have hHeld := hNew
          clear hNew
          simp only [Act.put, List.setIfInBounds_toArray, List.set_cons_zero, List.set_cons_succ]
          refine heldTake 11 (some 68) (v := ?_) rfl rfl (by kernel_rfl) (by kernel_rfl) (by kernel_rfl) (by rfl) hHeld (fun _ _ _ h => h) ?_ ?_
          rotate_left
          ·intro w' hSw; (try dsimp only at hSw); go_simp <;> with_reducible rfl
          simp only [Act.put, List.setIfInBounds_toArray, List.set_cons_zero, List.set_cons_succ]
          refine wpAnyH_done (by kernel_rfl) ?_ _
          refine NoPanic.normal ?_
          have HZ : Hid (Below W.heap.size W _) := Lib.hid hHeld
          go_wp2_with fail
          go_ret
          exact ⟨by rw [HFR.out] <;> rfl, (HBW.out.trans (HZ.out.mono HBW.out.size))⟩
         case true =>
          have HF : Hid (bo = true) := Lib.hid (by rw [HRX.out] <;> first | rfl | (simp; done))
          have HN : Hid (sameL sDel (xdels.drop (k + 1)) (ydels.drop (k + 1)) = v1) := Lib.hid (by rw [← HG2.out, HF.out]; simp)
          refine heldCall 10 (some 67) (f := ?_) (args := ?_) rfl rfl (by kernel_rfl) (by rfl) ?_ ?_
          rotate_left 2
          ·go_simp <;> first | (constructor <;> with_reducible rfl) | with_reducible rfl
          (with_reducible refine (KC _ (HBW.out.trans (hHeld.mono HBW.out.size))).mono ?_)
          rintro _ z ⟨rfl, hz⟩
          refine ⟨_, rfl, keepAnd ?_ (fun hNew => ?_)⟩
          ·exact Below.trans hHeld (hz.mono hHeld.size)
          clear hHeld
          have hHeld := hNew
          clear hNew
          simp only [Act.put, List.setIfInBounds_toArray, List.set_cons_zero, List.set_cons_succ]
          refine heldTake 11 (some 68) (v := ?_) rfl rfl (by kernel_rfl) (by kernel_rfl) (by kernel_rfl) (by rfl) hHeld (fun _ _ _ h => h) ?_ ?_
          rotate_left
          ·intro w' hSw; (try dsimp only at hSw); go_simp <;> with_reducible rfl
          simp only [Act.put, List.setIfInBounds_toArray, List.set_cons_zero, List.set_cons_succ]
          refine wpAnyH_done (by kernel_rfl) ?_ _
          refine NoPanic.normal ?_
          have HZ : Hid (Below W.heap.size W _) := Lib.hid hHeld
          go_wp2_with fail
          go_roundw
          case rel => exact ⟨k + 1, by go_num, hlt, HN, HZ⟩
          case measure => simp [intOf]; omega
set_option maxRecDepth 1000000 in
set_option maxHeartbeats 16000000 in
theorem refSameState_any (x y : RSt) (w : World) (hx : x.is w (· < w.heap.size)) (hy : y.is w (· < w.heap.size)) (kx : ∀ n ∈ x.ents, ∀ e ∈ n.create.chks, exAll w (· < w.heap.size) e) (ky : ∀ n ∈ y.ents, ∀ e ∈ n.create.chks, exAll w (· < w.heap.size) e) :
  Calls Tryz.prog 23 #[.agg (RSt.enc x).toArray, .agg (RSt.enc y).toArray] w fun e w' => e = .returned (.bool (sSt x y)) ∧ Below w.heap.size w w' := by
 obtain ⟨xtx, xtm, xwl, xnx, xeA, xeC, xents, xsA, xsC, xstms, xtA, xtC, xtabs, xpA, xpC, xpla, xqA, xqC, xpol, xhA, xhC, xhor⟩ := x
 obtain ⟨ytx, ytm, ywl, ynx, yeA, yeC, yents, ysA, ysC, ystms, ytA, ytC, ytabs, ypA, ypC, ypla, yqA, yqC, ypol, yhA, yhC, yhor⟩ := y
 obtain ⟨rs, hrs⟩ : ∃ r, r = sSt ⟨xtx, xtm, xwl, xnx, xeA, xeC, xents, xsA, xsC, xstms, xtA, xtC, xtabs, xpA, xpC, xpla, xqA, xqC, xpol, xhA, xhC, xhor⟩ ⟨ytx, ytm, ywl, ynx, yeA, yeC, yents, ysA, ysC, ystms, ytA, ytC, ytabs, ypA, ypC, ypla, yqA, yqC, ypol, yhA, yhC, yhor⟩ := ⟨_, rfl⟩
 rw [← hrs]
 show Calls Tryz.prog 23 #[.agg #[.int .i64 xtx, .int .i64 xtm, .int .i64 xwl, .int .i64 xnx, .slice xeA xents.length xeC, .slice xsA xstms.length xsC, .slice xtA xtabs.length xtC, .slice xpA xpla.length xpC, .slice xqA xpol.length xqC, .slice xhA xhor.length xhC], .agg #[.int .i64 ytx, .int .i64 ytm, .int .i64 ywl, .int .i64 ynx, .slice yeA yents.length yeC, .slice ysA ystms.length ysC, .slice ytA ytabs.length ytC, .slice ypA ypla.length ypC, .slice yqA ypol.length yqC, .slice yhA yhor.length yhC]] w _
 have HR : Hid (rs = (decide (xtx = ytx) && (decide (xtm = ytm) && (decide (xwl = ywl) && (decide (xnx = ynx) && (sameL sStm xstms ystms && (sameL sTv xtabs ytabs && (sameL sEnt xents yents && (sameL sHld xpla ypla && (sameL sPol xpol ypol && sameL sHor xhor yhor)))))))))) := Lib.hid (by rw [hrs]; simp only [sSt]; ac_rfl)
 clear hrs
 have f1 : RdE 2 Stm.enc w (· < w.heap.size) (.slice xsA xstms.length xsC) xstms := hx.stms
 have g1 : RdE 2 Stm.enc w (· < w.heap.size) (.slice ysA ystms.length ysC) ystms := hy.stms
 have q1 := RdE.bd f1
 have r1 := RdE.bd g1
 have Hx1 := Lib.hid f1
 have Hy1 := Lib.hid g1
 have f2 : RdE 2 RTv.enc w (· < w.heap.size) (.slice xtA xtabs.length xtC) xtabs := hx.tabs
 have g2 : RdE 2 RTv.enc w (· < w.heap.size) (.slice ytA ytabs.length ytC) ytabs := hy.tabs
 have q2 := RdE.bd f2
 have r2 := RdE.bd g2
 have Hx2 := Lib.hid f2
 have Hy2 := Lib.hid g2
 have HXI := Lib.hid hx
 have HYI := Lib.hid hy
 obtain ⟨v1, hv1⟩ : ∃ bo, bo = sameL sStm xstms ystms := ⟨_, rfl⟩
 rw [← hv1] at HR
 have Hv1 := Lib.hid hv1
 clear hv1
 obtain ⟨v2, hv2⟩ : ∃ bo, bo = sameL sTv xtabs ytabs := ⟨_, rfl⟩
 rw [← hv2] at HR
 have Hv2 := Lib.hid hv2
 clear hv2
 obtain ⟨v5, hv5⟩ : ∃ bo, bo = (sameL sEnt xents yents) := ⟨_, rfl⟩
 have K5 := fun (V : World) (hV : Below w.heap.size w V) => refSameEntries_any _ _ xents yents V (hx.below hV).ents (hy.below hV).ents (hx.below hV).entI (hy.below hV).entI (fun n hn e he => (kx n hn e he).blw hV) (fun n hn e he => (ky n hn e he).blw hV)
 rw [← hv5] at K5 HR
 clear hv5
 obtain ⟨v6, hv6⟩ : ∃ bo, bo = (sameL sHld xpla ypla && (sameL sPol xpol ypol && sameL sHor xhor yhor)) := ⟨_, rfl⟩
 have K6 := fun (V : World) (hV : Below w.heap.size w V) => refSameRules_any _ _ _ _ _ _ xpla ypla xpol ypol xhor yhor V (hx.below hV).pla (hy.below hV).pla (hx.below hV).pol (hy.below hV).pol (hx.below hV).hor (hy.below hV).hor
 rw [← hv6] at K6 HR
 clear hv6
 clear hx hy kx ky f1 f2 g1 g2
 obtain ⟨W, hW⟩ : ∃ W, W = (w.alloc (.cells #[.int .i64 xtx, .int .i64 xtm, .int .i64 xwl, .int .i64 xnx, .slice xeA xents.length xeC, .slice xsA xstms.length xsC, .slice xtA xtabs.length xtC, .slice xpA xpla.length xpC, .slice xqA xpol.length xqC, .slice xhA xhor.length xhC] 47)).alloc (.cells #[.int .i64 ytx, .int .i64 ytm, .int .i64 ywl, .int .i64 ynx, .slice yeA yents.length yeC, .slice ysA ystms.length ysC, .slice ytA ytabs.length ytC, .slice ypA ypla.length ypC, .slice yqA ypol.length yqC, .slice yhA yhor.length yhC] 47) := ⟨_, rfl⟩
 have hbW : Below w.heap.size w W := by rw [hW]; exact (Below.of_alloc _).alloc (by simp) _
 have hWs : w.heap.size + 1 < W.heap.size := by rw [hW]; simp
 have hT : W.heap[w.heap.size]? = some (.cells #[.int .i64 xtx, .int .i64 xtm, .int .i64 xwl, .int .i64 xnx, .slice xeA xents.length xeC, .slice xsA xstms.length xsC, .slice xtA xtabs.length xtC, .slice xpA xpla.length xpC, .slice xqA xpol.length xqC, .slice xhA xhor.length xhC] 47 (0, 0)) := by
  rw [hW]
  exact ((Below.of_alloc (w := w.alloc (.cells #[.int .i64 xtx, .int .i64 xtm, .int .i64 xwl, .int .i64 xnx, .slice xeA xents.length xeC, .slice xsA xstms.length xsC, .slice xtA xtabs.length xtC, .slice xpA xpla.length xpC, .slice xqA xpol.length xqC, .slice xhA xhor.length xhC] 47)) (.cells #[.int .i64 ytx, .int .i64 ytm, .int .i64 ywl, .int .i64 ynx, .slice yeA yents.length yeC, .slice ysA ystms.length ysC, .slice ytA ytabs.length ytC, .slice ypA ypla.length ypC, .slice yqA ypol.length yqC, .slice yhA yhor.length yhC] 47)).block _ (by simp)).trans (heap_alloc_new _ _)
 have hU : W.heap[w.heap.size + 1]? = some (.cells #[.int .i64 ytx, .int .i64 ytm, .int .i64 ywl, .int .i64 ynx, .slice yeA yents.length yeC, .slice ysA ystms.length ysC, .slice ytA ytabs.length ytC, .slice ypA ypla.length ypC, .slice yqA ypol.length yqC, .slice yhA yhor.length yhC] 47 (0, 0)) := by
  rw [hW]
  have h := heap_alloc_new (w.alloc (.cells #[.int .i64 xtx, .int .i64 xtm, .int .i64 xwl, .int .i64 xnx, .slice xeA xents.length xeC, .slice xsA xstms.length xsC, .slice xtA xtabs.length xtC, .slice xpA xpla.length xpC, .slice xqA xpol.length xqC, .slice xhA xhor.length xhC] 47)) (.cells #[.int .i64 ytx, .int .i64 ytm, .int .i64 ywl, .int .i64 ynx, .slice yeA yents.length yeC, .slice ysA ystms.length ysC, .slice ytA ytabs.length ytC, .slice ypA ypla.length ypC, .slice yqA ypol.length yqC, .slice yhA yhor.length yhC] 47)
  simpa using h
 have FX : Hid (∀ V, Below W.heap.size W V → V.heap[w.heap.size]? = some (.cells #[.int .i64 xtx, .int .i64 xtm, .int .i64 xwl, .int .i64 xnx, .slice xeA xents.length xeC, .slice xsA xstms.length xsC, .slice xtA xtabs.length xtC, .slice xpA xpla.length xpC, .slice xqA xpol.length xqC, .slice xhA xhor.length xhC] 47 (0, 0))) := Lib.hid (fun V hV => (hV.block _ (by omega)).trans hT)
 have FY : Hid (∀ V, Below W.heap.size W V → V.heap[w.heap.size + 1]? = some (.cells #[.int .i64 ytx, .int .i64 ytm, .int .i64 ywl, .int .i64 ynx, .slice yeA yents.length yeC, .slice ysA ystms.length ysC, .slice ytA ytabs.length ytC, .slice ypA ypla.length ypC, .slice yqA ypol.length yqC, .slice yhA yhor.length yhC] 47 (0, 0))) := Lib.hid (fun V hV => (hV.block _ hWs).trans hU)
 have HBW := Lib.hid hbW
 have HC0 : Hid (Below W.heap.size W W) := Lib.hid (Below.refl _ _)
 have HW := Lib.hid hW
 clear hT hU hbW hWs hW
 have c0 : W.cell? ⟨w.heap.size, 0, none⟩ = some (.int .i64 xtx) := cell_of_row W _ 0 _ _ _ (FX.out _ HC0.out)
 have c1 : W.cell? ⟨w.heap.size, 1, none⟩ = some (.int .i64 xtm) := cell_of_row W _ 1 _ _ _ (FX.out _ HC0.out)
 have c2 : W.cell? ⟨w.heap.size, 2, none⟩ = some (.int .i64 xwl) := cell_of_row W _ 2 _ _ _ (FX.out _ HC0.out)
 have c3 : W.cell? ⟨w.heap.size, 3, none⟩ = some (.int .i64 xnx) := cell_of_row W _ 3 _ _ _ (FX.out _ HC0.out)
 have c4 : W.cell? ⟨w.heap.size, 4, none⟩ = some (.slice xeA xents.length xeC) := cell_of_row W _ 4 _ _ _ (FX.out _ HC0.out)
 have c5 : W.cell? ⟨w.heap.size, 5, none⟩ = some (.slice xsA xstms.length xsC) := cell_of_row W _ 5 _ _ _ (FX.out _ HC0.out)
 have c6 : W.cell? ⟨w.heap.size, 6, none⟩ = some (.slice xtA xtabs.length xtC) := cell_of_row W _ 6 _ _ _ (FX.out _ HC0.out)
 have c7 : W.cell? ⟨w.heap.size, 7, none⟩ = some (.slice xpA xpla.length xpC) := cell_of_row W _ 7 _ _ _ (FX.out _ HC0.out)
 have c8 : W.cell? ⟨w.heap.size, 8, none⟩ = some (.slice xqA xpol.length xqC) := cell_of_row W _ 8 _ _ _ (FX.out _ HC0.out)
 have c9 : W.cell? ⟨w.heap.size, 9, none⟩ = some (.slice xhA xhor.length xhC) := cell_of_row W _ 9 _ _ _ (FX.out _ HC0.out)
 have d0 : W.cell? ⟨w.heap.size + 1, 0, none⟩ = some (.int .i64 ytx) := cell_of_row W _ 0 _ _ _ (FY.out _ HC0.out)
 have d1 : W.cell? ⟨w.heap.size + 1, 1, none⟩ = some (.int .i64 ytm) := cell_of_row W _ 1 _ _ _ (FY.out _ HC0.out)
 have d2 : W.cell? ⟨w.heap.size + 1, 2, none⟩ = some (.int .i64 ywl) := cell_of_row W _ 2 _ _ _ (FY.out _ HC0.out)
 have d3 : W.cell? ⟨w.heap.size + 1, 3, none⟩ = some (.int .i64 ynx) := cell_of_row W _ 3 _ _ _ (FY.out _ HC0.out)
 have d4 : W.cell? ⟨w.heap.size + 1, 4, none⟩ = some (.slice yeA yents.length yeC) := cell_of_row W _ 4 _ _ _ (FY.out _ HC0.out)
 have d5 : W.cell? ⟨w.heap.size + 1, 5, none⟩ = some (.slice ysA ystms.length ysC) := cell_of_row W _ 5 _ _ _ (FY.out _ HC0.out)
 have d6 : W.cell? ⟨w.heap.size + 1, 6, none⟩ = some (.slice ytA ytabs.length ytC) := cell_of_row W _ 6 _ _ _ (FY.out _ HC0.out)
 have d7 : W.cell? ⟨w.heap.size + 1, 7, none⟩ = some (.slice ypA ypla.length ypC) := cell_of_row W _ 7 _ _ _ (FY.out _ HC0.out)
 have d8 : W.cell? ⟨w.heap.size + 1, 8, none⟩ = some (.slice yqA ypol.length yqC) := cell_of_row W _ 8 _ _ _ (FY.out _ HC0.out)
 have d9 : W.cell? ⟨w.heap.size + 1, 9, none⟩ = some (.slice yhA yhor.length yhC) := cell_of_row W _ 9 _ _ _ (FY.out _ HC0.out)
 by_cases tt75 : xtx = ytx
 case neg =>
  have gg75 : decide (xtx = ytx) = false := decide_eq_false tt75
  have ee75 : (xtx == ytx) = false := by simpa using tt75
  have ff75 : (xtx != ytx) = true := by simpa using tt75
  have HF : Hid (rs = false) := Lib.hid (by rw [HR.out, gg75] <;> simp)
  go_enter Tryz.func23, Tryz.ntmps23
  go_wp2_with fail
  try rw [← HW.out]
  go_ret
  exact ⟨by rw [HF.out] <;> first | rfl | (simp; done), (HBW.out.trans (HC0.out.mono HBW.out.size))⟩
 case pos =>
  have GG75 : Hid (decide (xtx = ytx) = true) := Lib.hid (decide_eq_true tt75)
  have ee75 : (xtx == ytx) = true := by simpa using tt75
  have ff75 : (xtx != ytx) = false := by simpa using tt75
  clear tt75
  by_cases tt76 : xtm = ytm
  case neg =>
   have gg76 : decide (xtm = ytm) = false := decide_eq_false tt76
   have ee76 : (xtm == ytm) = false := by simpa using tt76
   have ff76 : (xtm != ytm) = true := by simpa using tt76
   have HF : Hid (rs = false) := Lib.hid (by rw [HR.out, gg76] <;> simp)
   go_enter Tryz.func23, Tryz.ntmps23
   go_wp2_with fail
   try rw [← HW.out]
   go_ret
   exact ⟨by rw [HF.out] <;> first | rfl | (simp; done), (HBW.out.trans (HC0.out.mono HBW.out.size))⟩
  case pos =>
   have GG76 : Hid (decide (xtm = ytm) = true) := Lib.hid (decide_eq_true tt76)
   have ee76 : (xtm == ytm) = true := by simpa using tt76
   have ff76 : (xtm != ytm) = false := by simpa using tt76
   clear tt76
   by_cases tt77 : xwl = ywl
   case neg =>
    have gg77 : decide (xwl = ywl) = false := decide_eq_false tt77
    have ee77 : (xwl == ywl) = false := by simpa using tt77
    have ff77 : (xwl != ywl) = true := by simpa using tt77
    have HF : Hid (rs = false) := Lib.hid (by rw [HR.out, gg77] <;> simp)
    go_enter Tryz.func23, Tryz.ntmps23
    go_wp2_with fail
    try rw [← HW.out]
    go_ret
    exact ⟨by rw [HF.out] <;> first | rfl | (simp; done), (HBW.out.trans (HC0.out.mono HBW.out.size))⟩
   case pos =>
    have GG77 : Hid (decide (xwl = ywl) = true) := Lib.hid (decide_eq_true tt77)
    have ee77 : (xwl == ywl) = true := by simpa using tt77
    have ff77 : (xwl != ywl) = false := by simpa using tt77
    clear tt77
    by_cases tt78 : xnx = ynx
    case neg =>
     have gg78 : decide (xnx = ynx) = false := decide_eq_false tt78
     have ee78 : (xnx == ynx) = false := by simpa using tt78
     have ff78 : (xnx != ynx) = true := by simpa using tt78
     have HF : Hid (rs = false) := Lib.hid (by rw [HR.out, gg78] <;> simp)
     go_enter Tryz.func23, Tryz.ntmps23
     go_wp2_with fail
     try rw [← HW.out]
     go_ret
     exact ⟨by rw [HF.out] <;> first | rfl | (simp; done), (HBW.out.trans (HC0.out.mono HBW.out.size))⟩
    case pos =>
     have GG78 : Hid (decide (xnx = ynx) = true) := Lib.hid (decide_eq_true tt78)
     have ee78 : (xnx == ynx) = true := by simpa using tt78
     have ff78 : (xnx != ynx) = false := by simpa using tt78
     clear tt78
     by_cases tt79 : xstms.length = ystms.length
     case neg =>
      have gg79 : v1 = false := by rw [Hv1.out]; exact sameL_len tt79
      have ss79 : ¬ (xstms.length : Int) = (ystms.length : Int) := by omega
      have ff79 : ((xstms.length : Int) != (ystms.length : Int)) = true := by simpa using ss79
      have HF : Hid (rs = false) := Lib.hid (by rw [HR.out, gg79] <;> simp)
      go_enter Tryz.func23, Tryz.ntmps23
      go_wp2_with fail
      try rw [← HW.out]
      go_ret
      exact ⟨by rw [HF.out] <;> first | rfl | (simp; done), (HBW.out.trans (HC0.out.mono HBW.out.size))⟩
     case pos =>
      have HL1 := Lib.hid tt79
      have ss79 : (xstms.length : Int) = (ystms.length : Int) := by omega
      have ff79 : ((xstms.length : Int) != (ystms.length : Int)) = false := by simpa using ss79
      clear tt79 ss79
      by_cases tt80 : xtabs.length = ytabs.length
      case neg =>
       have gg80 : v2 = false := by rw [Hv2.out]; exact sameL_len tt80
       have ss80 : ¬ (xtabs.length : Int) = (ytabs.length : Int) := by omega
       have ff80 : ((xtabs.length : Int) != (ytabs.length : Int)) = true := by simpa using ss80
       have HF : Hid (rs = false) := Lib.hid (by rw [HR.out, gg80] <;> simp)
       go_enter Tryz.func23, Tryz.ntmps23
       go_wp2_with fail
       try rw [← HW.out]
       go_ret
       exact ⟨by rw [HF.out] <;> first | rfl | (simp; done), (HBW.out.trans (HC0.out.mono HBW.out.size))⟩
      case pos =>
       have HL2 := Lib.hid tt80
       have ss80 : (xtabs.length : Int) = (ytabs.length : Int) := by omega
       have ff80 : ((xtabs.length : Int) != (ytabs.length : Int)) = false := by simpa using ss80
       clear tt80 ss80
       go_enter Tryz.func23, Tryz.ntmps23
       go_wp2_with fail
       try rw [← HW.out]
       clear c0 d0 c1 d1 c2 d2 c3 d3 c4 d4 c5 d5 c6 d6 c7 d7 c8 d8 c9 d9
       go_loopw [54] (fun i wr => ∃ k : Nat, i = .int .i64 (k : Int) ∧ k ≤ xstms.length ∧ Hid (sameL sStm (xstms.drop k) (ystms.drop k) = v1) ∧ Hid (Below W.heap.size W wr)) (fun i _ => xstms.length - (intOf i).toNat)
       case atStart => exact ⟨0, rfl, Nat.zero_le _, Lib.hid Hv1.out.symm, HC0⟩
       case round =>
        obtain ⟨k, rfl, hk, HG, HB81⟩ := hrel
        obtain ⟨wi81, rfl⟩ : ∃ wi : World, wi = wr := ⟨_, rfl⟩
        by_cases hlt : k < xstms.length
        case neg =>
         have hlt3 : ¬ (k : Int) < (xstms.length : Int) := by omega
         have HT81 : Hid (v1 = true) := Lib.hid (by rw [← HG.out]; exact sameL_end (by omega) (by have := HL1.out; omega))
         have c0 : wi81.cell? ⟨w.heap.size, 0, none⟩ = some (.int .i64 xtx) := cell_of_row wi81 _ 0 _ _ _ (FX.out _ HB81.out)
         have c1 : wi81.cell? ⟨w.heap.size, 1, none⟩ = some (.int .i64 xtm) := cell_of_row wi81 _ 1 _ _ _ (FX.out _ HB81.out)
         have c2 : wi81.cell? ⟨w.heap.size, 2, none⟩ = some (.int .i64 xwl) := cell_of_row wi81 _ 2 _ _ _ (FX.out _ HB81.out)
         have c3 : wi81.cell? ⟨w.heap.size, 3, none⟩ = some (.int .i64 xnx) := cell_of_row wi81 _ 3 _ _ _ (FX.out _ HB81.out)
         have c4 : wi81.cell? ⟨w.heap.size, 4, none⟩ = some (.slice xeA xents.length xeC) := cell_of_row wi81 _ 4 _ _ _ (FX.out _ HB81.out)
         have c5 : wi81.cell? ⟨w.heap.size, 5, none⟩ = some (.slice xsA xstms.length xsC) := cell_of_row wi81 _ 5 _ _ _ (FX.out _ HB81.out)
         have c6 : wi81.cell? ⟨w.heap.size, 6, none⟩ = some (.slice xtA xtabs.length xtC) := cell_of_row wi81 _ 6 _ _ _ (FX.out _ HB81.out)
         have c7 : wi81.cell? ⟨w.heap.size, 7, none⟩ = some (.slice xpA xpla.length xpC) := cell_of_row wi81 _ 7 _ _ _ (FX.out _ HB81.out)
         have c8 : wi81.cell? ⟨w.heap.size, 8, none⟩ = some (.slice xqA xpol.length xqC) := cell_of_row wi81 _ 8 _ _ _ (FX.out _ HB81.out)
         have c9 : wi81.cell? ⟨w.heap.size, 9, none⟩ = some (.slice xhA xhor.length xhC) := cell_of_row wi81 _ 9 _ _ _ (FX.out _ HB81.out)
         have d0 : wi81.cell? ⟨w.heap.size + 1, 0, none⟩ = some (.int .i64 ytx) := cell_of_row wi81 _ 0 _ _ _ (FY.out _ HB81.out)
         have d1 : wi81.cell? ⟨w.heap.size + 1, 1, none⟩ = some (.int .i64 ytm) := cell_of_row wi81 _ 1 _ _ _ (FY.out _ HB81.out)
         have d2 : wi81.cell? ⟨w.heap.size + 1, 2, none⟩ = some (.int .i64 ywl) := cell_of_row wi81 _ 2 _ _ _ (FY.out _ HB81.out)
         have d3 : wi81.cell? ⟨w.heap.size + 1, 3, none⟩ = some (.int .i64 ynx) := cell_of_row wi81 _ 3 _ _ _ (FY.out _ HB81.out)
         have d4 : wi81.cell? ⟨w.heap.size + 1, 4, none⟩ = some (.slice yeA yents.length yeC) := cell_of_row wi81 _ 4 _ _ _ (FY.out _ HB81.out)
         have d5 : wi81.cell? ⟨w.heap.size + 1, 5, none⟩ = some (.slice ysA ystms.length ysC) := cell_of_row wi81 _ 5 _ _ _ (FY.out _ HB81.out)
         have d6 : wi81.cell? ⟨w.heap.size + 1, 6, none⟩ = some (.slice ytA ytabs.length ytC) := cell_of_row wi81 _ 6 _ _ _ (FY.out _ HB81.out)
         have d7 : wi81.cell? ⟨w.heap.size + 1, 7, none⟩ = some (.slice ypA ypla.length ypC) := cell_of_row wi81 _ 7 _ _ _ (FY.out _ HB81.out)
         have d8 : wi81.cell? ⟨w.heap.size + 1, 8, none⟩ = some (.slice yqA ypol.length yqC) := cell_of_row wi81 _ 8 _ _ _ (FY.out _ HB81.out)
         have d9 : wi81.cell? ⟨w.heap.size + 1, 9, none⟩ = some (.slice yhA yhor.length yhC) := cell_of_row wi81 _ 9 _ _ _ (FY.out _ HB81.out)
         go_wp2_with fail
         clear c0 d0 c1 d1 c2 d2 c3 d3 c4 d4 c5 d5 c6 d6 c7 d7 c8 d8 c9 d9
         go_loopw [72] (fun i wr => ∃ k : Nat, i = .int .i64 (k : Int) ∧ k ≤ xtabs.length ∧ Hid (sameL sTv (xtabs.drop k) (ytabs.drop k) = v2) ∧ Hid (Below W.heap.size W wr)) (fun i _ => xtabs.length - (intOf i).toNat)
         case atStart => exact ⟨0, rfl, Nat.zero_le _, Lib.hid Hv2.out.symm, HB81⟩
         case round =>
          obtain ⟨k, rfl, hk, HG, HB82⟩ := hrel
          obtain ⟨wi82, rfl⟩ : ∃ wi : World, wi = wr := ⟨_, rfl⟩
          by_cases hlt : k < xtabs.length
          case neg =>
           have hlt3 : ¬ (k : Int) < (xtabs.length : Int) := by omega
           have HT82 : Hid (v2 = true) := Lib.hid (by rw [← HG.out]; exact sameL_end (by omega) (by have := HL2.out; omega))
           have c0 : wi82.cell? ⟨w.heap.size, 0, none⟩ = some (.int .i64 xtx) := cell_of_row wi82 _ 0 _ _ _ (FX.out _ HB82.out)
           have c1 : wi82.cell? ⟨w.heap.size, 1, none⟩ = some (.int .i64 xtm) := cell_of_row wi82 _ 1 _ _ _ (FX.out _ HB82.out)
           have c2 : wi82.cell? ⟨w.heap.size, 2, none⟩ = some (.int .i64 xwl) := cell_of_row wi82 _ 2 _ _ _ (FX.out _ HB82.out)
           have c3 : wi82.cell? ⟨w.heap.size, 3, none⟩ = some (.int .i64 xnx) := cell_of_row wi82 _ 3 _ _ _ (FX.out _ HB82.out)
           have c4 : wi82.cell? ⟨w.heap.size, 4, none⟩ = some (.slice xeA xents.length xeC) := cell_of_row wi82 _ 4 _ _ _ (FX.out _ HB82.out)
           have c5 : wi82.cell? ⟨w.heap.size, 5, none⟩ = some (.slice xsA xstms.length xsC) := cell_of_row wi82 _ 5 _ _ _ (FX.out _ HB82.out)
           have c6 : wi82.cell? ⟨w.heap.size, 6, none⟩ = some (.slice xtA xtabs.length xtC) := cell_of_row wi82 _ 6 _ _ _ (FX.out _ HB82.out)
           have c7 : wi82.cell? ⟨w.heap.size, 7, none⟩ = some (.slice xpA xpla.length xpC) := cell_of_row wi82 _ 7 _ _ _ (FX.out _ HB82.out)
           have c8 : wi82.cell? ⟨w.heap.size, 8, none⟩ = some (.slice xqA xpol.length xqC) := cell_of_row wi82 _ 8 _ _ _ (FX.out _ HB82.out)
           have c9 : wi82.cell? ⟨w.heap.size, 9, none⟩ = some (.slice xhA xhor.length xhC) := cell_of_row wi82 _ 9 _ _ _ (FX.out _ HB82.out)
           have d0 : wi82.cell? ⟨w.heap.size + 1, 0, none⟩ = some (.int .i64 ytx) := cell_of_row wi82 _ 0 _ _ _ (FY.out _ HB82.out)
           have d1 : wi82.cell? ⟨w.heap.size + 1, 1, none⟩ = some (.int .i64 ytm) := cell_of_row wi82 _ 1 _ _ _ (FY.out _ HB82.out)
           have d2 : wi82.cell? ⟨w.heap.size + 1, 2, none⟩ = some (.int .i64 ywl) := cell_of_row wi82 _ 2 _ _ _ (FY.out _ HB82.out)
           have d3 : wi82.cell? ⟨w.heap.size + 1, 3, none⟩ = some (.int .i64 ynx) := cell_of_row wi82 _ 3 _ _ _ (FY.out _ HB82.out)
           have d4 : wi82.cell? ⟨w.heap.size + 1, 4, none⟩ = some (.slice yeA yents.length yeC) := cell_of_row wi82 _ 4 _ _ _ (FY.out _ HB82.out)
           have d5 : wi82.cell? ⟨w.heap.size + 1, 5, none⟩ = some (.slice ysA ystms.length ysC) := cell_of_row wi82 _ 5 _ _ _ (FY.out _ HB82.out)
           have d6 : wi82.cell? ⟨w.heap.size + 1, 6, none⟩ = some (.slice ytA ytabs.length ytC) := cell_of_row wi82 _ 6 _ _ _ (FY.out _ HB82.out)
           have d7 : wi82.cell? ⟨w.heap.size + 1, 7, none⟩ = some (.slice ypA ypla.length ypC) := cell_of_row wi82 _ 7 _ _ _ (FY.out _ HB82.out)
           have d8 : wi82.cell? ⟨w.heap.size + 1, 8, none⟩ = some (.slice yqA ypol.length yqC) := cell_of_row wi82 _ 8 _ _ _ (FY.out _ HB82.out)
           have d9 : wi82.cell? ⟨w.heap.size + 1, 9, none⟩ = some (.slice yhA yhor.length yhC) := cell_of_row wi82 _ 9 _ _ _ (FY.out _ HB82.out)
           have KK83 := K5 wi82 (HBW.out.trans (HB82.out.mono HBW.out.size))
           go_wp2_with fail
           (with_reducible refine KK83.mono ?_)
           rintro _ z83 ⟨rfl, hz83⟩
           clear KK83
           have HC83 : Hid (Below W.heap.size W z83) := Lib.hid (HB82.out.trans (hz83.mono HB82.out.size))
           clear hz83
           clear c0 d0 c1 d1 c2 d2 c3 d3 c4 d4 c5 d5 c6 d6 c7 d7 c8 d8 c9 d9
           have c0 : z83.cell? ⟨w.heap.size, 0, none⟩ = some (.int .i64 xtx) := cell_of_row z83 _ 0 _ _ _ (FX.out _ HC83.out)
           have c1 : z83.cell? ⟨w.heap.size, 1, none⟩ = some (.int .i64 xtm) := cell_of_row z83 _ 1 _ _ _ (FX.out _ HC83.out)
           have c2 : z83.cell? ⟨w.heap.size, 2, none⟩ = some (.int .i64 xwl) := cell_of_row z83 _ 2 _ _ _ (FX.out _ HC83.out)
           have c3 : z83.cell? ⟨w.heap.size, 3, none⟩ = some (.int .i64 xnx) := cell_of_row z83 _ 3 _ _ _ (FX.out _ HC83.out)
           have c4 : z83.cell? ⟨w.heap.size, 4, none⟩ = some (.slice xeA xents.length xeC) := cell_of_row z83 _ 4 _ _ _ (FX.out _ HC83.out)
           have c5 : z83.cell? ⟨w.heap.size, 5, none⟩ = some (.slice xsA xstms.length xsC) := cell_of_row z83 _ 5 _ _ _ (FX.out _ HC83.out)
           have c6 : z83.cell? ⟨w.heap.size, 6, none⟩ = some (.slice xtA xtabs.length xtC) := cell_of_row z83 _ 6 _ _ _ (FX.out _ HC83.out)
           have c7 : z83.cell? ⟨w.heap.size, 7, none⟩ = some (.slice xpA xpla.length xpC) := cell_of_row z83 _ 7 _ _ _ (FX.out _ HC83.out)
           have c8 : z83.cell? ⟨w.heap.size, 8, none⟩ = some (.slice xqA xpol.length xqC) := cell_of_row z83 _ 8 _ _ _ (FX.out _ HC83.out)
           have c9 : z83.cell? ⟨w.heap.size, 9, none⟩ = some (.slice xhA xhor.length xhC) := cell_of_row z83 _ 9 _ _ _ (FX.out _ HC83.out)
           have d0 : z83.cell? ⟨w.heap.size + 1, 0, none⟩ = some (.int .i64 ytx) := cell_of_row z83 _ 0 _ _ _ (FY.out _ HC83.out)
           have d1 : z83.cell? ⟨w.heap.size + 1, 1, none⟩ = some (.int .i64 ytm) := cell_of_row z83 _ 1 _ _ _ (FY.out _ HC83.out)
           have d2 : z83.cell? ⟨w.heap.size + 1, 2, none⟩ = some (.int .i64 ywl) := cell_of_row z83 _ 2 _ _ _ (FY.out _ HC83.out)
           have d3 : z83.cell? ⟨w.heap.size + 1, 3, none⟩ = some (.int .i64 ynx) := cell_of_row z83 _ 3 _ _ _ (FY.out _ HC83.out)
           have d4 : z83.cell? ⟨w.heap.size + 1, 4, none⟩ = some (.slice yeA yents.length yeC) := cell_of_row z83 _ 4 _ _ _ (FY.out _ HC83.out)
           have d5 : z83.cell? ⟨w.heap.size + 1, 5, none⟩ = some (.slice ysA ystms.length ysC) := cell_of_row z83 _ 5 _ _ _ (FY.out _ HC83.out)
           have d6 : z83.cell? ⟨w.heap.size + 1, 6, none⟩ = some (.slice ytA ytabs.length ytC) := cell_of_row z83 _ 6 _ _ _ (FY.out _ HC83.out)
           have d7 : z83.cell? ⟨w.heap.size + 1, 7, none⟩ = some (.slice ypA ypla.length ypC) := cell_of_row z83 _ 7 _ _ _ (FY.out _ HC83.out)
           have d8 : z83.cell? ⟨w.heap.size + 1, 8, none⟩ = some (.slice yqA ypol.length yqC) := cell_of_row z83 _ 8 _ _ _ (FY.out _ HC83.out)
           have d9 : z83.cell? ⟨w.heap.size + 1, 9, none⟩ = some (.slice yhA yhor.length yhC) := cell_of_row z83 _ 9 _ _ _ (FY.out _ HC83.out)
           cases v5
           case false =>
            have HF : Hid (rs = false) := Lib.hid (by rw [HR.out] <;> simp)
            go_wp2_with fail
            go_ret
            exact ⟨by rw [HF.out] <;> first | rfl | (simp; done), (HBW.out.trans (HC83.out.mono HBW.out.size))⟩
           case true =>
            have KK84 := K6 z83 (HBW.out.trans (HC83.out.mono HBW.out.size))
            go_wp2_with fail
            (with_reducible refine KK84.mono ?_)
            rintro _ z84 ⟨rfl, hz84⟩
            clear KK84
            have HC84 : Hid (Below W.heap.size W z84) := Lib.hid (HC83.out.trans (hz84.mono HC83.out.size))
            clear hz84
            clear c0 d0 c1 d1 c2 d2 c3 d3 c4 d4 c5 d5 c6 d6 c7 d7 c8 d8 c9 d9
            have c0 : z84.cell? ⟨w.heap.size, 0, none⟩ = some (.int .i64 xtx) := cell_of_row z84 _ 0 _ _ _ (FX.out _ HC84.out)
            have c1 : z84.cell? ⟨w.heap.size, 1, none⟩ = some (.int .i64 xtm) := cell_of_row z84 _ 1 _ _ _ (FX.out _ HC84.out)
            have c2 : z84.cell? ⟨w.heap.size, 2, none⟩ = some (.int .i64 xwl) := cell_of_row z84 _ 2 _ _ _ (FX.out _ HC84.out)
            have c3 : z84.cell? ⟨w.heap.size, 3, none⟩ = some (.int .i64 xnx) := cell_of_row z84 _ 3 _ _ _ (FX.out _ HC84.out)
            have c4 : z84.cell? ⟨w.heap.size, 4, none⟩ = some (.slice xeA xents.length xeC) := cell_of_row z84 _ 4 _ _ _ (FX.out _ HC84.out)
            have c5 : z84.cell? ⟨w.heap.size, 5, none⟩ = some (.slice xsA xstms.length xsC) := cell_of_row z84 _ 5 _ _ _ (FX.out _ HC84.out)
            have c6 : z84.cell? ⟨w.heap.size, 6, none⟩ = some (.slice xtA xtabs.length xtC) := cell_of_row z84 _ 6 _ _ _ (FX.out _ HC84.out)
            have c7 : z84.cell? ⟨w.heap.size, 7, none⟩ = some (.slice xpA xpla.length xpC) := cell_of_row z84 _ 7 _ _ _ (FX.out _ HC84.out)
            have c8 : z84.cell? ⟨w.heap.size, 8, none⟩ = some (.slice xqA xpol.length xqC) := cell_of_row z84 _ 8 _ _ _ (FX.out _ HC84.out)
            have c9 : z84.cell? ⟨w.heap.size, 9, none⟩ = some (.slice xhA xhor.length xhC) := cell_of_row z84 _ 9 _ _ _ (FX.out _ HC84.out)
            have d0 : z84.cell? ⟨w.heap.size + 1, 0, none⟩ = some (.int .i64 ytx) := cell_of_row z84 _ 0 _ _ _ (FY.out _ HC84.out)
            have d1 : z84.cell? ⟨w.heap.size + 1, 1, none⟩ = some (.int .i64 ytm) := cell_of_row z84 _ 1 _ _ _ (FY.out _ HC84.out)
            have d2 : z84.cell? ⟨w.heap.size + 1, 2, none⟩ = some (.int .i64 ywl) := cell_of_row z84 _ 2 _ _ _ (FY.out _ HC84.out)
            have d3 : z84.cell? ⟨w.heap.size + 1, 3, none⟩ = some (.int .i64 ynx) := cell_of_row z84 _ 3 _ _ _ (FY.out _ HC84.out)
            have d4 : z84.cell? ⟨w.heap.size + 1, 4, none⟩ = some (.slice yeA yents.length yeC) := cell_of_row z84 _ 4 _ _ _ (FY.out _ HC84.out)
            have d5 : z84.cell? ⟨w.heap.size + 1, 5, none⟩ = some (.slice ysA ystms.length ysC) := cell_of_row z84 _ 5 _ _ _ (FY.out _ HC84.out)
            have d6 : z84.cell? ⟨w.heap.size + 1, 6, none⟩ = some (.slice ytA ytabs.length ytC) := cell_of_row z84 _ 6 _ _ _ (FY.out _ HC84.out)
            have d7 : z84.cell? ⟨w.heap.size + 1, 7, none⟩ = some (.slice ypA ypla.length ypC) := cell_of_row z84 _ 7 _ _ _ (FY.out _ HC84.out)
            have d8 : z84.cell? ⟨w.heap.size + 1, 8, none⟩ = some (.slice yqA ypol.length yqC) := cell_of_row z84 _ 8 _ _ _ (FY.out _ HC84.out)
            have d9 : z84.cell? ⟨w.heap.size + 1, 9, none⟩ = some (.slice yhA yhor.length yhC) := cell_of_row z84 _ 9 _ _ _ (FY.out _ HC84.out)
            cases v6
            case false =>
             have HF : Hid (rs = false) := Lib.hid (by rw [HR.out] <;> simp)
             go_wp2_with fail
             go_ret
             exact ⟨by rw [HF.out] <;> first | rfl | (simp; done), (HBW.out.trans (HC84.out.mono HBW.out.size))⟩
            case true =>
             have HF : Hid (rs = true) := Lib.hid (by rw [HR.out, GG75.out, GG76.out, GG77.out, GG78.out, HT81.out, HT82.out] <;> first | rfl | (simp; done))
             go_wp2_with fail
             go_ret
             exact ⟨by rw [HF.out] <;> first | rfl | (simp; done), (HBW.out.trans (HC84.out.mono HBW.out.size))⟩
          case pos =>
           have hlt' : k < ytabs.length := by have := HL2.out; omega
           have hlt3 : (k : Int) < (xtabs.length : Int) := by omega
           have hlt4 : (k : Int) < (ytabs.length : Int) := by omega
           obtain ⟨b, off, rfl, hF, hcl⟩ := RdE.at_ (K := 2) (enc := RTv.enc) (fun _ => rfl) (by omega) Hx2.out hlt
           obtain ⟨b', off', rfl, hF', hcl'⟩ := RdE.at_ (K := 2) (enc := RTv.enc) (fun _ => rfl) (by omega) Hy2.out hlt'
           have HBL := Lib.hid hF
           have HBM := Lib.hid hF'
           have hcx := hcl k hlt
           have hcy := hcl' k hlt'
           have hg := HG.out
           rw [sameL_at hlt hlt'] at hg
           have ha := List.getElem_mem hlt
           have hb := List.getElem_mem hlt'
           obtain ⟨x, hx⟩ : ∃ x, x = xtabs[k] := ⟨_, rfl⟩
           obtain ⟨y, hy⟩ : ∃ y, y = ytabs[k] := ⟨_, rfl⟩
           rw [← hx] at hcx hg ha
           rw [← hy] at hcy hg hb
           obtain ⟨bo, hbo⟩ : ∃ bo, bo = sTv x y := ⟨_, rfl⟩
           rw [← hbo] at hg
           have HG2 := Lib.hid hg
           clear hx hy hcl hcl' hF hF' hg HG
           obtain ⟨xt, xA, xc, xv⟩ := x
           obtain ⟨yt, yA, yc, yv⟩ := y
           have g0 : w.cell? ⟨b, off + k * 2, none⟩ = some (.string xt) := hcx 0 _ (by decide) rfl
           have g1 : w.cell? ⟨b, off + k * 2 + 1, none⟩ = some (.slice xA xv.length xc) := hcx 1 _ (by decide) rfl
           have h0 : w.cell? ⟨b', off' + k * 2, none⟩ = some (.string yt) := hcy 0 _ (by decide) rfl
           have h1 : w.cell? ⟨b', off' + k * 2 + 1, none⟩ = some (.slice yA yv.length yc) := hcy 1 _ (by decide) rfl
           have HRX : Hid (bo = (eqS xt yt && sameL sVer xv yv)) := Lib.hid hbo
           clear hcx hcy hbo
           have KC : ∀ (V : World), Below w.heap.size w V → Calls Tryz.prog 103 #[.slice xA xv.length xc, .slice yA yv.length yc] V (fun e w' => e = .returned (.bool (sameL sVer xv yv)) ∧ Below V.heap.size V w') := fun V hV => refSameVersions_any _ _ xv yv V (RdVs.below (HXI.out.tabI _ ha) hV) (RdVs.below (HYI.out.tabI _ hb) hV)
           obtain ⟨vc, hvc⟩ : ∃ bo, bo = sameL sVer xv yv := ⟨_, rfl⟩
           rw [← hvc] at HRX
           simp only [← hvc] at KC
           clear hvc
           clear ha hb
           go_wp2_with fail
           refine wp_region_noPanic ?_
           refine wp_region_held_drew (S := (fun w' => Below W.heap.size W w')) (by kernel_rfl) ?_ (fun hHeld => ?_)
           ·exact HB82.out.drew
           refine heldTake 0 (some 75) (v := ?_) rfl rfl (by kernel_rfl) (by kernel_rfl) (by kernel_rfl) (by rfl) hHeld (fun _ _ _ h => h) ?_ ?_
           rotate_left
           ·intro w' hSw; (try dsimp only at hSw); go_simp <;> with_reducible rfl
           simp only [Act.put, List.setIfInBounds_toArray, List.set_cons_zero, List.set_cons_succ]
           refine heldTake 1 (some 76) (v := ?_) rfl rfl (by kernel_rfl) (by kernel_rfl) (by kernel_rfl) (by rfl) hHeld (fun _ _ _ h => h) ?_ ?_
           rotate_left
           ·intro w' hSw; (try dsimp only at hSw); have q0 := cell_of_row w' _ 6 _ _ _ (FX.out _ hSw); go_simp <;> with_reducible rfl
           simp only [Act.put, List.setIfInBounds_toArray, List.set_cons_zero, List.set_cons_succ]
           refine heldTake 2 (some 77) (v := ?_) rfl rfl (by kernel_rfl) (by kernel_rfl) (by kernel_rfl) (by rfl) hHeld (fun _ _ _ h => h) ?_ ?_
           rotate_left
           ·intro w' hSw; (try dsimp only at hSw); go_simp <;> with_reducible rfl
           simp only [Act.put, List.setIfInBounds_toArray, List.set_cons_zero, List.set_cons_succ]
           refine heldTake 3 (some 78) (v := ?_) rfl rfl (by kernel_rfl) (by kernel_rfl) (by kernel_rfl) (by rfl) hHeld (fun _ _ _ h => h) ?_ ?_
           rotate_left
           ·intro w' hSw; (try dsimp only at hSw); go_simp <;> with_reducible rfl
           simp only [Act.put, List.setIfInBounds_toArray, List.set_cons_zero, List.set_cons_succ]
           refine heldTake 4 (some 79) (v := ?_) rfl rfl (by kernel_rfl) (by kernel_rfl) (by kernel_rfl) (by rfl) hHeld (fun _ _ _ h => h) ?_ ?_
           rotate_left
           ·intro w' hSw; (try dsimp only at hSw); go_simp <;> with_reducible rfl
           simp only [Act.put, List.setIfInBounds_toArray, List.set_cons_zero, List.set_cons_succ]
           refine heldTake 5 (some 80) (v := ?_) rfl rfl (by kernel_rfl) (by kernel_rfl) (by kernel_rfl) (by rfl) hHeld (fun _ _ _ h => h) ?_ ?_
           rotate_left
           ·intro w' hSw; (try dsimp only at hSw); have q0 : w'.cell? ⟨b, off + k * 2, none⟩ = some (.string xt) := (World.cell?_of_block ((HBW.out.trans (hSw.mono HBW.out.size)).block _ HBL.out)).trans g0; go_simp <;> with_reducible rfl
           simp only [Act.put, List.setIfInBounds_toArray, List.set_cons_zero, List.set_cons_succ]
           refine heldTake 6 (some 81) (v := ?_) rfl rfl (by kernel_rfl) (by kernel_rfl) (by kernel_rfl) (by rfl) hHeld (fun _ _ _ h => h) ?_ ?_
           rotate_left
           ·intro w' hSw; (try dsimp only at hSw); go_simp <;> with_reducible rfl
           simp only [Act.put, List.setIfInBounds_toArray, List.set_cons_zero, List.set_cons_succ]
           refine heldTake 7 (some 82) (v := ?_) rfl rfl (by kernel_rfl) (by kernel_rfl) (by kernel_rfl) (by rfl) hHeld (fun _ _ _ h => h) ?_ ?_
           rotate_left
           ·intro w' hSw; (try dsimp only at hSw); have q0 := cell_of_row w' _ 6 _ _ _ (FY.out _ hSw); go_simp <;> with_reducible rfl
           simp only [Act.put, List.setIfInBounds_toArray, List.set_cons_zero, List.set_cons_succ]
           refine heldTake 8 (some 83) (v := ?_) rfl rfl (by kernel_rfl) (by kernel_rfl) (by kernel_rfl) (by rfl) hHeld (fun _ _ _ h => h) ?_ ?_
           rotate_left
           ·intro w' hSw; (try dsimp only at hSw); go_simp <;> with_reducible rfl
           simp only [Act.put, List.setIfInBounds_toArray, List.set_cons_zero, List.set_cons_succ]
           refine heldTake 9 (some 84) (v := ?_) rfl rfl (by kernel_rfl) (by kernel_rfl) (by kernel_rfl) (by rfl) hHeld (fun _ _ _ h => h) ?_ ?_
           rotate_left
           ·intro w' hSw; (try dsimp only at hSw); go_simp <;> with_reducible rfl
           simp only [Act.put, List.setIfInBounds_toArray, List.set_cons_zero, List.set_cons_succ]
           refine heldTake 10 (some 85) (v := ?_) rfl rfl (by kernel_rfl) (by kernel_rfl) (by kernel_rfl) (by rfl) hHeld (fun _ _ _ h => h) ?_ ?_
           rotate_left
           ·intro w' hSw; (try dsimp only at hSw); go_simp <;> with_reducible rfl
           simp only [Act.put, List.setIfInBounds_toArray, List.set_cons_zero, List.set_cons_succ]
           refine heldTake 11 (some 86) (v := ?_) rfl rfl (by kernel_rfl) (by kernel_rfl) (by kernel_rfl) (by rfl) hHeld (fun _ _ _ h => h) ?_ ?_
           rotate_left
           ·intro w' hSw; (try dsimp only at hSw); have q0 : w'.cell? ⟨b', off' + k * 2, none⟩ = some (.string yt) := (World.cell?_of_block ((HBW.out.trans (hSw.mono HBW.out.size)).block _ HBM.out)).trans h0; go_simp <;> with_reducible rfl
           simp only [Act.put, List.setIfInBounds_toArray, List.set_cons_zero, List.set_cons_succ]
           cases ee85 : (xt.toList == yt.toList)
           case false =>
            have gg85 : Hid (eqS xt yt = false) := Lib.hid ee85
            have ff85 : (xt.toList != yt.toList) = true := by rw [bne, ee85]; rfl
            have HF : Hid (bo = false) := Lib.hid (by rw [HRX.out, gg85.out] <;> first | rfl | (simp; done))
            have HE : Hid (v2 = false) := Lib.hid (by rw [← HG2.out, HF.out]; rfl)
            have HFR : Hid (rs = false) := Lib.hid (by rw [HR.out, HE.out] <;> simp)
            refine heldTake 12 (some 87) (v := ?_) rfl rfl (by kernel_rfl) (by kernel_rfl) (by kernel_rfl) (by rfl) hHeld (fun _ _ _ h => h) ?_ ?_
            rotate_left
            ·intro w' hSw; (try dsimp only at hSw); go_simp <;> with_reducible rfl
            simp only [Act.put, List.setIfInBounds_toArray, List.set_cons_zero, List.set_cons_succ]
            refine heldTake 13 (some 88) (v := ?_) rfl rfl (by kernel_rfl) (by kernel_rfl) (by kernel_rfl) (by rfl) hHeld (fun _ _ _ h => h) ?_ ?_
            rotate_left
            ·intro w' hSw; (try dsimp only at hSw); go_simp <;> with_reducible rfl
            simp only [Act.put, List.setIfInBounds_toArray, List.set_cons_zero, List.set_cons_succ]
            refine heldSkip 14 (some 89) rfl rfl (by kernel_rfl) (by kernel_rfl) (by kernel_rfl) (by rfl) hHeld (fun _ _ _ h => h) ?_
            simp only [Act.put, List.setIfInBounds_toArray, List.set_cons_zero, List.set_cons_succ]
            refine heldSkip 15 (some 90) rfl rfl (by kernel_rfl) (by kernel_rfl) (by kernel_rfl) (by rfl) hHeld (fun _ _ _ h => h) ?_
            simp only [Act.put, List.setIfInBounds_toArray, List.set_cons_zero, List.set_cons_succ]
            refine heldSkip 16 (some 91) rfl rfl (by kernel_rfl) (by kernel_rfl) (by kernel_rfl) (by rfl) hHeld (fun _ _ _ h => h) ?_
            simp only [Act.put, List.setIfInBounds_toArray, List.set_cons_zero, List.set_cons_succ]
            refine heldSkip 17 (some 92) rfl rfl (by kernel_rfl) (by kernel_rfl) (by kernel_rfl) (by rfl) hHeld (fun _ _ _ h => h) ?_
            simp only [Act.put, List.setIfInBounds_toArray, List.set_cons_zero, List.set_cons_succ]
            refine heldSkip 18 (some 93) rfl rfl (by kernel_rfl) (by kernel_rfl) (by kernel_rfl) (by rfl) hHeld (fun _ _ _ h => h) ?_
            simp only [Act.put, List.setIfInBounds_toArray, List.set_cons_zero, List.set_cons_succ]
            refine heldSkip 19 (some 94) rfl rfl (by kernel_rfl) (by kernel_rfl) (by kernel_rfl) (by rfl) hHeld (fun _ _ _ h => h) ?_
            simp only [Act.put, List.setIfInBounds_toArray, List.set_cons_zero, List.set_cons_succ]
            refine heldSkip 20 (some 95) rfl rfl (by kernel_rfl) (by kernel_rfl) (by kernel_rfl) (by rfl) hHeld (fun _ _ _ h => h) ?_
            simp only [Act.put, List.setIfInBounds_toArray, List.set_cons_zero, List.set_cons_succ]
            refine heldSkip 21 (some 96) rfl rfl (by kernel_rfl) (by kernel_rfl) (by kernel_rfl) (by rfl) hHeld (fun _ _ _ h => h) ?_
            simp only [Act.put, List.setIfInBounds_toArray, List.set_cons_zero, List.set_cons_succ]
            refine heldSkip 22 (some 97) rfl rfl (by kernel_rfl) (by kernel_rfl) (by kernel_rfl) (by rfl) hHeld (fun _ _ _ h => h) ?_
            simp only [Act.put, List.setIfInBounds_toArray, List.set_cons_zero, List.set_cons_succ]
            refine heldSkip 23 (some 98) rfl rfl (by kernel_rfl) (by kernel_rfl) (by kernel_rfl) (by rfl) hHeld (fun _ _ _ h => h) ?_
            simp only [Act.put, List.setIfInBounds_toArray, List.set_cons_zero, List.set_cons_succ]
            refine heldSkip 24 (some 99) rfl rfl (by kernel_rfl) (by kernel_rfl) (by kernel_rfl) (by rfl) hHeld (fun _ _ _ h => h) ?_
            simp only [Act.put, List.setIfInBounds_toArray, List.set_cons_zero, List.set_cons_succ]
            refine heldSkip 25 (some 100) rfl rfl (by kernel_rfl) (by kernel_rfl) (by kernel_rfl) (by rfl) hHeld (fun _ _ _ h => h) ?_
            simp only [Act.put, List.setIfInBounds_toArray, List.set_cons_zero, List.set_cons_succ]
            refine heldSkip 26 (some 101) rfl rfl (by kernel_rfl) (by kernel_rfl) (by kernel_rfl) (by rfl) hHeld (fun _ _ _ h => h) ?_
            simp only [Act.put, List.setIfInBounds_toArray, List.set_cons_zero, List.set_cons_succ]
            refine heldSkip 27 (some 102) rfl rfl (by kernel_rfl) (by kernel_rfl) (by kernel_rfl) (by rfl) hHeld (fun _ _ _ h => h) ?_
            simp only [Act.put, List.setIfInBounds_toArray, List.set_cons_zero, List.set_cons_succ]
            refine heldTake 28 (some 103) (v := ?_) rfl rfl (by kernel_rfl) (by kernel_rfl) (by kernel_rfl) (by rfl) hHeld (fun _ _ _ h => h) ?_ ?_
            rotate_left
            ·intro w' hSw; (try dsimp only at hSw); go_simp <;> with_reducible rfl
            simp only [Act.put, List.setIfInBounds_toArray, List.set_cons_zero, List.set_cons_succ]
            refine wpAnyH_done (by kernel_rfl) ?_ _
            refine NoPanic.normal ?_
            have HZ : Hid (Below W.heap.size W _) := Lib.hid hHeld
            go_wp2_with fail
            go_ret
            exact ⟨by rw [HFR.out] <;> rfl, (HBW.out.trans (HZ.out.mono HBW.out.size))⟩
           case true =>
            have GG85 : Hid (eqS xt yt = true) := Lib.hid ee85
            have ff85 : (xt.toList != yt.toList) = false := by rw [bne, ee85]; rfl
            refine heldTake 12 (some 87) (v := ?_) rfl rfl (by kernel_rfl) (by kernel_rfl) (by kernel_rfl) (by rfl) hHeld (fun _ _ _ h => h) ?_ ?_
            rotate_left
            ·intro w' hSw; (try dsimp only at hSw); go_simp <;> with_reducible rfl
            simp only [Act.put, List.setIfInBounds_toArray, List.set_cons_zero, List.set_cons_succ]
            refine heldTake 13 (some 88) (v := ?_) rfl rfl (by kernel_rfl) (by kernel_rfl) (by kernel_rfl) (by rfl) hHeld (fun _ _ _ h => h) ?_ ?_
            rotate_left
            ·intro w' hSw; (try dsimp only at hSw); go_simp <;> with_reducible rfl
            simp only [Act.put, List.setIfInBounds_toArray, List.set_cons_zero, List.set_cons_succ]
            refine heldTake 14 (some 89) (v := ?_) rfl rfl (by kernel_rfl) (by kernel_rfl) (by kernel_rfl) (by rfl) hHeld (fun _ _ _ h => h) ?_ ?_
            rotate_left
            ·intro w' hSw; (try dsimp only at hSw); go_simp <;> with_reducible rfl
            simp only [Act.put, List.setIfInBounds_toArray, List.set_cons_zero, List.set_cons_succ]
            refine heldTake 15 (some 90) (v := ?_) rfl rfl (by kernel_rfl) (by kernel_rfl) (by kernel_rfl) (by rfl) hHeld (fun _ _ _ h => h) ?_ ?_
            rotate_left
            ·intro w' hSw; (try dsimp only at hSw); have q0 := cell_of_row w' _ 6 _ _ _ (FX.out _ hSw); go_simp <;> with_reducible rfl
            simp only [Act.put, List.setIfInBounds_toArray, List.set_cons_zero, List.set_cons_succ]
            refine heldTake 16 (some 91) (v := ?_) rfl rfl (by kernel_rfl) (by kernel_rfl) (by kernel_rfl) (by rfl) hHeld (fun _ _ _ h => h) ?_ ?_
            rotate_left
            ·intro w' hSw; (try dsimp only at hSw); go_simp <;> with_reducible rfl
            simp only [Act.put, List.setIfInBounds_toArray, List.set_cons_zero, List.set_cons_succ]
            refine heldTake 17 (some 92) (v := ?_) rfl rfl (by kernel_rfl) (by kernel_rfl) (by kernel_rfl) (by rfl) hHeld (fun _ _ _ h => h) ?_ ?_
            rotate_left
            ·intro w' hSw; (try dsimp only at hSw); go_simp <;> with_reducible rfl
            simp only [Act.put, List.setIfInBounds_toArray, List.set_cons_zero, List.set_cons_succ]
            refine heldTake 18 (some 93) (v := ?_) rfl rfl (by kernel_rfl) (by kernel_rfl) (by kernel_rfl) (by rfl) hHeld (fun _ _ _ h => h) ?_ ?_
            rotate_left
            ·intro w' hSw; (try dsimp only at hSw); go_simp <;> with_reducible rfl
            simp only [Act.put, List.setIfInBounds_toArray, List.set_cons_zero, List.set_cons_succ]
            refine heldTake 19 (some 94) (v := ?_) rfl rfl (by kernel_rfl) (by kernel_rfl) (by kernel_rfl) (by rfl) hHeld (fun _ _ _ h => h) ?_ ?_
            rotate_left
            ·intro w' hSw; (try dsimp only at hSw); have q1 : w'.cell? ⟨b, off + k * 2 + 1, none⟩ = some (.slice xA xv.length xc) := (World.cell?_of_block ((HBW.out.trans (hSw.mono HBW.out.size)).block _ HBL.out)).trans g1; go_simp <;> with_reducible rfl
            simp only [Act.put, List.setIfInBounds_toArray, List.set_cons_zero, List.set_cons_succ]
            refine heldTake 20 (some 95) (v := ?_) rfl rfl (by kernel_rfl) (by kernel_rfl) (by kernel_rfl) (by rfl) hHeld (fun _ _ _ h => h) ?_ ?_
            rotate_left
            ·intro w' hSw; (try dsimp only at hSw); go_simp <;> with_reducible rfl
            simp only [Act.put, List.setIfInBounds_toArray, List.set_cons_zero, List.set_cons_succ]
            refine heldTake 21 (some 96) (v := ?_) rfl rfl (by kernel_rfl) (by kernel_rfl) (by kernel_rfl) (by rfl) hHeld (fun _ _ _ h => h) ?_ ?_
            rotate_left
            ·intro w' hSw; (try dsimp only at hSw); have q0 := cell_of_row w' _ 6 _ _ _ (FY.out _ hSw); go_simp <;> with_reducible rfl
            simp only [Act.put, List.setIfInBounds_toArray, List.set_cons_zero, List.set_cons_succ]
            refine heldTake 22 (some 97) (v := ?_) rfl rfl (by kernel_rfl) (by kernel_rfl) (by kernel_rfl) (by rfl) hHeld (fun _ _ _ h => h) ?_ ?_
            rotate_left
            ·intro w' hSw; (try dsimp only at hSw); go_simp <;> with_reducible rfl
            simp only [Act.put, List.setIfInBounds_toArray, List.set_cons_zero, List.set_cons_succ]
            refine heldTake 23 (some 98) (v := ?_) rfl rfl (by kernel_rfl) (by kernel_rfl) (by kernel_rfl) (by rfl) hHeld (fun _ _ _ h => h) ?_ ?_
            rotate_left
            ·intro w' hSw; (try dsimp only at hSw); go_simp <;> with_reducible rfl
            simp only [Act.put, List.setIfInBounds_toArray, List.set_cons_zero, List.set_cons_succ]
            refine heldTake 24 (some 99) (v := ?_) rfl rfl (by kernel_rfl) (by kernel_rfl) (by kernel_rfl) (by rfl) hHeld (fun _ _ _ h => h) ?_ ?_
            rotate_left
            ·intro w' hSw; (try dsimp only at hSw); go_simp <;> with_reducible rfl
            simp only [Act.put, List.setIfInBounds_toArray, List.set_cons_zero, List.set_cons_succ]
            refine heldTake 25 (some 100) (v := ?_) rfl rfl (by kernel_rfl) (by kernel_rfl) (by kernel_rfl) (by rfl) hHeld (fun _ _ _ h => h) ?_ ?_
            rotate_left
            ·intro w' hSw; (try dsimp only at hSw); have q1 : w'.cell? ⟨b', off' + k * 2 + 1, none⟩ = some (.slice yA yv.length yc) := (World.cell?_of_block ((HBW.out.trans (hSw.mono HBW.out.size)).block _ HBM.out)).trans h1; go_simp <;> with_reducible rfl
            simp only [Act.put, List.setIfInBounds_toArray, List.set_cons_zero, List.set_cons_succ]
            cases vc
            case false =>
             have HF : Hid (bo = false) := Lib.hid (by rw [HRX.out, GG85.out] <;> first | rfl | (simp; done))
             have HE : Hid (v2 = false) := Lib.hid (by rw [← HG2.out, HF.out]; rfl)
             have HFR : Hid (rs = false) := Lib.hid (by rw [HR.out, HE.out] <;> simp)
             refine heldCall 26 (some 101) (f := ?_) (args := ?_) rfl rfl (by kernel_rfl) (by rfl) ?_ ?_
             rotate_left 2
             ·go_simp <;> first | (constructor <;> with_reducible rfl) | with_reducible rfl
             (with_reducible refine (KC _ (HBW.out.trans (hHeld.mono HBW.out.size))).mono ?_)
             rintro _ z ⟨rfl, hz⟩
             refine ⟨_, rfl, keepAnd ?_ (fun hNew => ?_)⟩
             ·exact Below.trans hHeld (hz.mono hHeld.size)
             clear hHeld
             have hHeld := hNew
             clear hNew
             simp only [Act.put, List.setIfInBounds_toArray, List.set_cons_zero, List.set_cons_succ]
             refine heldTake 27 (some 102) (v := ?_) rfl rfl (by kernel_rfl) (by kernel_rfl) (by kernel_rfl) (by rfl) hHeld (fun _ _ _ h => h) ?_ ?_
             rotate_left
             ·intro w' hSw; (try dsimp only at hSw); go_simp <;> with_reducible rfl
             simp only [Act.put, List.setIfInBounds_toArray, List.set_cons_zero, List.set_cons_succ]
             refine heldTake 28 (some 103) (v := ?_) rfl rfl (by kernel_rfl) (by kernel_rfl) (by kernel_rfl) (by rfl) hHeld (fun _ _ _ h => h) ?_ ?_
             rotate_left
             ·intro w' hSw; (try dsimp only at hSw); go_simp <;> with_reducible rfl
             simp only [Act.put, List.setIfInBounds_toArray, List.set_cons_zero, List.set_cons_succ]
             refine wpAnyH_done (by kernel_rfl) ?_ _
             refine NoPanic.normal ?_
             have HZ : Hid (Below W.heap.size W _) := Lib.hid hHeld
             go_wp2_with fail
             go_ret
             exact ⟨by rw [HFR.out] <;> rfl, (HBW.out.trans (HZ.out.mono HBW.out.size))⟩
            case true =>
             have HF : Hid (bo = true) := Lib.hid (by rw [HRX.out, GG85.out] <;> first | rfl | (simp; done))
             have HN : Hid (sameL sTv (xtabs.drop (k + 1)) (ytabs.drop (k + 1)) = v2) := Lib.hid (by rw [← HG2.out, HF.out]; simp)
             refine heldCall 26 (some 101) (f := ?_) (args := ?_) rfl rfl (by kernel_rfl) (by rfl) ?_ ?_
             rotate_left 2
             ·go_simp <;> first | (constructor <;> with_reducible rfl) | with_reducible rfl
             (with_reducible refine (KC _ (HBW.out.trans (hHeld.mono HBW.out.size))).mono ?_)
             rintro _ z ⟨rfl, hz⟩
             refine ⟨_, rfl, keepAnd ?_ (fun hNew => ?_)⟩
             ·exact Below.trans hHeld (hz.mono hHeld.size)
             clear hHeld
             have hHeld := hNew
             clear hNew
             simp only [Act.put, List.setIfInBounds_toArray, List.set_cons_zero, List.set_cons_succ]
             refine heldTake 27 (some 102) (v := ?_) rfl rfl (by kernel_rfl) (by kernel_rfl) (by kernel_rfl) (by rfl) hHeld (fun _ _ _ h => h) ?_ ?_
             rotate_left
             ·intro w' hSw; (try dsimp only at hSw); go_simp <;> with_reducible rfl
             simp only [Act.put, List.setIfInBounds_toArray, List.set_cons_zero, List.set_cons_succ]
             refine heldTake 28 (some 103) (v := ?_) rfl rfl (by kernel_rfl) (by kernel_rfl) (by kernel_rfl) (by rfl) hHeld (fun _ _ _ h => h) ?_ ?_
             rotate_left
             ·intro w' hSw; (try dsimp only at hSw); go_simp <;> with_reducible rfl
             simp only [Act.put, List.setIfInBounds_toArray, List.set_cons_zero, List.set_cons_succ]
             refine wpAnyH_done (by kernel_rfl) ?_ _
             refine NoPanic.normal ?_
             have HZ : Hid (Below W.heap.size W _) := Lib.hid hHeld
             go_wp2_with fail
             go_roundw
             case rel => exact ⟨k + 1, by go_num, hlt, HN, HZ⟩
             case measure => simp [intOf]; omega
        case pos =>
         have hlt' : k < ystms.length := by have := HL1.out; omega
         have hlt3 : (k : Int) < (xstms.length : Int) := by omega
         have hlt4 : (k : Int) < (ystms.length : Int) := by omega
         obtain ⟨b, off, rfl, hF, hcl⟩ := RdE.at_ (K := 2) (enc := Stm.enc) (fun _ => rfl) (by omega) Hx1.out hlt
         obtain ⟨b', off', rfl, hF', hcl'⟩ := RdE.at_ (K := 2) (enc := Stm.enc) (fun _ => rfl) (by omega) Hy1.out hlt'
         have HBL := Lib.hid hF
         have HBM := Lib.hid hF'
         have hcx := hcl k hlt
         have hcy := hcl' k hlt'
         have hg := HG.out
         rw [sameL_at hlt hlt'] at hg
         have ha := List.getElem_mem hlt
         have hb := List.getElem_mem hlt'
         obtain ⟨x, hx⟩ : ∃ x, x = xstms[k] := ⟨_, rfl⟩
         obtain ⟨y, hy⟩ : ∃ y, y = ystms[k] := ⟨_, rfl⟩
         rw [← hx] at hcx hg ha
         rw [← hy] at hcy hg hb
         obtain ⟨bo, hbo⟩ : ∃ bo, bo = sStm x y := ⟨_, rfl⟩
         rw [← hbo] at hg
         have HG2 := Lib.hid hg
         clear hx hy hcl hcl' hF hF' hg HG
         obtain ⟨x1, x2⟩ := x
         obtain ⟨y1, y2⟩ := y
         have g0 : w.cell? ⟨b, off + k * 2, none⟩ = some (.int .i64 x1) := hcx 0 _ (by decide) rfl
         have g1 : w.cell? ⟨b, off + k * 2 + 1, none⟩ = some (.int .i64 x2) := hcx 1 _ (by decide) rfl
         have h0 : w.cell? ⟨b', off' + k * 2, none⟩ = some (.int .i64 y1) := hcy 0 _ (by decide) rfl
         have h1 : w.cell? ⟨b', off' + k * 2 + 1, none⟩ = some (.int .i64 y2) := hcy 1 _ (by decide) rfl
         have HRX : Hid (bo = (decide (x1 = y1) && decide (x2 = y2))) := Lib.hid hbo
         clear hcx hcy hbo
         clear ha hb
         go_wp2_with fail
         refine wp_region_noPanic ?_
         refine wp_region_held_drew (S := (fun w' => Below W.heap.size W w')) (by kernel_rfl) ?_ (fun hHeld => ?_)
         ·exact HB81.out.drew
         refine heldTake 0 (some 57) (v := ?_) rfl rfl (by kernel_rfl) (by kernel_rfl) (by kernel_rfl) (by rfl) hHeld (fun _ _ _ h => h) ?_ ?_
         rotate_left
         ·intro w' hSw; (try dsimp only at hSw); go_simp <;> with_reducible rfl
         simp only [Act.put, List.setIfInBounds_toArray, List.set_cons_zero, List.set_cons_succ]
         refine heldTake 1 (some 58) (v := ?_) rfl rfl (by kernel_rfl) (by kernel_rfl) (by kernel_rfl) (by rfl) hHeld (fun _ _ _ h => h) ?_ ?_
         rotate_left
         ·intro w' hSw; (try dsimp only at hSw); have q0 := cell_of_row w' _ 5 _ _ _ (FX.out _ hSw); go_simp <;> with_reducible rfl
         simp only [Act.put, List.setIfInBounds_toArray, List.set_cons_zero, List.set_cons_succ]
         refine heldTake 2 (some 59) (v := ?_) rfl rfl (by kernel_rfl) (by kernel_rfl) (by kernel_rfl) (by rfl) hHeld (fun _ _ _ h => h) ?_ ?_
         rotate_left
         ·intro w' hSw; (try dsimp only at hSw); go_simp <;> with_reducible rfl
         simp only [Act.put, List.setIfInBounds_toArray, List.set_cons_zero, List.set_cons_succ]
         refine heldTake 3 (some 60) (v := ?_) rfl rfl (by kernel_rfl) (by kernel_rfl) (by kernel_rfl) (by rfl) hHeld (fun _ _ _ h => h) ?_ ?_
         rotate_left
         ·intro w' hSw; (try dsimp only at hSw); go_simp <;> with_reducible rfl
         simp only [Act.put, List.setIfInBounds_toArray, List.set_cons_zero, List.set_cons_succ]
         refine heldTake 4 (some 61) (v := ?_) rfl rfl (by kernel_rfl) (by kernel_rfl) (by kernel_rfl) (by rfl) hHeld (fun _ _ _ h => h) ?_ ?_
         rotate_left
         ·intro w' hSw; (try dsimp only at hSw); have q0 : w'.cell? ⟨b, off + k * 2, none⟩ = some (.int .i64 x1) := (World.cell?_of_block ((HBW.out.trans (hSw.mono HBW.out.size)).block _ HBL.out)).trans g0; have q1 : w'.cell? ⟨b, off + k * 2 + 1, none⟩ = some (.int .i64 x2) := (World.cell?_of_block ((HBW.out.trans (hSw.mono HBW.out.size)).block _ HBL.out)).trans g1; go_simp <;> with_reducible rfl
         simp only [Act.put, List.setIfInBounds_toArray, List.set_cons_zero, List.set_cons_succ]
         refine heldTake 5 (some 62) (v := ?_) rfl rfl (by kernel_rfl) (by kernel_rfl) (by kernel_rfl) (by rfl) hHeld (fun _ _ _ h => h) ?_ ?_
         rotate_left
         ·intro w' hSw; (try dsimp only at hSw); go_simp <;> with_reducible rfl
         simp only [Act.put, List.setIfInBounds_toArray, List.set_cons_zero, List.set_cons_succ]
         refine heldTake 6 (some 63) (v := ?_) rfl rfl (by kernel_rfl) (by kernel_rfl) (by kernel_rfl) (by rfl) hHeld (fun _ _ _ h => h) ?_ ?_
         rotate_left
         ·intro w' hSw; (try dsimp only at hSw); have q0 := cell_of_row w' _ 5 _ _ _ (FY.out _ hSw); go_simp <;> with_reducible rfl
         simp only [Act.put, List.setIfInBounds_toArray, List.set_cons_zero, List.set_cons_succ]
         refine heldTake 7 (some 64) (v := ?_) rfl rfl (by kernel_rfl) (by kernel_rfl) (by kernel_rfl) (by rfl) hHeld (fun _ _ _ h => h) ?_ ?_
         rotate_left
         ·intro w' hSw; (try dsimp only at hSw); go_simp <;> with_reducible rfl
         simp only [Act.put, List.setIfInBounds_toArray, List.set_cons_zero, List.set_cons_succ]
         refine heldTake 8 (some 65) (v := ?_) rfl rfl (by kernel_rfl) (by kernel_rfl) (by kernel_rfl) (by rfl) hHeld (fun _ _ _ h => h) ?_ ?_
         rotate_left
         ·intro w' hSw; (try dsimp only at hSw); go_simp <;> with_reducible rfl
         simp only [Act.put, List.setIfInBounds_toArray, List.set_cons_zero, List.set_cons_succ]
         refine heldTake 9 (some 66) (v := ?_) rfl rfl (by kernel_rfl) (by kernel_rfl) (by kernel_rfl) (by rfl) hHeld (fun _ _ _ h => h) ?_ ?_
         rotate_left
         ·intro w' hSw; (try dsimp only at hSw); have q0 : w'.cell? ⟨b', off' + k * 2, none⟩ = some (.int .i64 y1) := (World.cell?_of_block ((HBW.out.trans (hSw.mono HBW.out.size)).block _ HBM.out)).trans h0; have q1 : w'.cell? ⟨b', off' + k * 2 + 1, none⟩ = some (.int .i64 y2) := (World.cell?_of_block ((HBW.out.trans (hSw.mono HBW.out.size)).block _ HBM.out)).trans h1; go_simp <;> with_reducible rfl
         simp only [Act.put, List.setIfInBounds_toArray, List.set_cons_zero, List.set_cons_succ]
         by_cases tt86 : x1 = y1
         case neg =>
          have gg86 : Hid (decide (x1 = y1) = false) := Lib.hid (decide_eq_false tt86)
          have ee86 : (x1 == y1) = false := by simpa using tt86
          have ff86 : (x1 != y1) = true := by simpa using tt86
          have HF : Hid (bo = false) := Lib.hid (by rw [HRX.out, gg86.out] <;> first | rfl | (simp; done))
          have HE : Hid (v1 = false) := Lib.hid (by rw [← HG2.out, HF.out]; rfl)
          have HFR : Hid (rs = false) := Lib.hid (by rw [HR.out, HE.out] <;> simp)
          refine heldTake 10 (some 67) (v := ?_) rfl rfl (by kernel_rfl) (by kernel_rfl) (by kernel_rfl) (by rfl) hHeld (fun _ _ _ h => h) ?_ ?_
          rotate_left
          ·intro w' hSw; (try dsimp only at hSw); go_simp <;> with_reducible rfl
          simp only [Act.put, List.setIfInBounds_toArray, List.set_cons_zero, List.set_cons_succ]
          refine wpAnyH_done (by kernel_rfl) ?_ _
          refine NoPanic.normal ?_
          have HZ : Hid (Below W.heap.size W _) := Lib.hid hHeld
          go_wp2_with fail
          go_ret
          exact ⟨by rw [HFR.out] <;> rfl, (HBW.out.trans (HZ.out.mono HBW.out.size))⟩
         case pos =>
          have GG86 : Hid (decide (x1 = y1) = true) := Lib.hid (decide_eq_true tt86)
          have ee86 : (x1 == y1) = true := by simpa using tt86
          have ff86 : (x1 != y1) = false := by simpa using tt86
          clear tt86
          by_cases tt87 : x2 = y2
          case neg =>
           have gg87 : Hid (decide (x2 = y2) = false) := Lib.hid (decide_eq_false tt87)
           have ee87 : (x2 == y2) = false := by simpa using tt87
           have ff87 : (x2 != y2) = true := by simpa using tt87
           have HF : Hid (bo = false) := Lib.hid (by rw [HRX.out, GG86.out, gg87.out] <;> first | rfl | (simp; done))
           have HE : Hid (v1 = false) := Lib.hid (by rw [← HG2.out, HF.out]; rfl)
           have HFR : Hid (rs = false) := Lib.hid (by rw [HR.out, HE.out] <;> simp)
           refine heldTake 10 (some 67) (v := ?_) rfl rfl (by kernel_rfl) (by kernel_rfl) (by kernel_rfl) (by rfl) hHeld (fun _ _ _ h => h) ?_ ?_
           rotate_left
           ·intro w' hSw; (try dsimp only at hSw); go_simp <;> with_reducible rfl
           simp only [Act.put, List.setIfInBounds_toArray, List.set_cons_zero, List.set_cons_succ]
           refine wpAnyH_done (by kernel_rfl) ?_ _
           refine NoPanic.normal ?_
           have HZ : Hid (Below W.heap.size W _) := Lib.hid hHeld
           go_wp2_with fail
           go_ret
           exact ⟨by rw [HFR.out] <;> rfl, (HBW.out.trans (HZ.out.mono HBW.out.size))⟩
          case pos =>
           have GG87 : Hid (decide (x2 = y2) = true) := Lib.hid (decide_eq_true tt87)
           have ee87 : (x2 == y2) = true := by simpa using tt87
           have ff87 : (x2 != y2) = false := by simpa using tt87
           clear tt87
           refine heldTake 10 (some 67) (v := ?_) rfl rfl (by kernel_rfl) (by kernel_rfl) (by kernel_rfl) (by rfl) hHeld (fun _ _ _ h => h) ?_ ?_
           rotate_left
           ·intro w' hSw; (try dsimp only at hSw); go_simp <;> with_reducible rfl
           simp only [Act.put, List.setIfInBounds_toArray, List.set_cons_zero, List.set_cons_succ]
           refine wpAnyH_done (by kernel_rfl) ?_ _
           refine NoPanic.normal ?_
           have HF : Hid (bo = true) := Lib.hid (by rw [HRX.out, GG86.out, GG87.out] <;> first | rfl | (simp; done))
           have HN : Hid (sameL sStm (xstms.drop (k + 1)) (ystms.drop (k + 1)) = v1) := Lib.hid (by rw [← HG2.out, HF.out]; simp)
           have HZ : Hid (Below W.heap.size W _) := Lib.hid hHeld
           go_wp2_with fail
           go_roundw
           case rel => exact ⟨k + 1, by go_num, hlt, HN, HZ⟩
           case measure => simp [intOf]; omega
end Go.Proofs.YtbfdegkickjbpaaGreat
