/-
  Rectangles: of a version, around versions.
-/
import Derived.Test.YtacjiocffbgkkaaGreatSegA
namespace Go.Proofs.YtacjiocffbgkkaaGreat
open Go.RowKit Go.Lib Go.IntWalk Go.Sort Go.Shelf

structure Rec where
  vf : Int
  vt : Int
  sf : Int
  st : Int
deriving Inhabited, DecidableEq
def Rec.enc (r : Rec) : List Value := [.int .i64 r.vf, .int .i64 r.vt, .int .i64 r.sf, .int .i64 r.st]
def recOf (x : Ver) : Rec := ⟨x.vf, x.vt, x.sf, x.st⟩
def joinR (a b : Rec) : Rec := ⟨min a.vf b.vf, max a.vt b.vt, min a.sf b.sf, max a.st b.st⟩
def bndF : List Ver → Rec
  | [] => ⟨0, 0, 0, 0⟩
  | x :: r => (x :: r).foldl (fun a v => joinR a (recOf v)) (recOf x)
theorem foldl_take {xs : List Ver} {r : Rec} {k : Nat} (hk : k < xs.length) : (xs.take (k + 1)).foldl (fun a v => joinR a (recOf v)) r = joinR ((xs.take k).foldl (fun a v => joinR a (recOf v)) r) (recOf xs[k]) := by
  rw [List.take_succ_eq_append_getElem hk, List.foldl_append]; rfl
theorem bndF_eq {xs : List Ver} (h : 0 < xs.length) : bndF xs = xs.foldl (fun a v => joinR a (recOf v)) (recOf xs[0]) := by
  cases xs with
  | nil => simp at h
  | cons x r => rfl
theorem four_set {w : World} {T : Nat} {a0 a1 a2 a3 : Value} {e : TypeId} (h : w.heap[T]? = some (.cells #[a0, a1, a2, a3] e (0, 0))) (c0 c1 c2 c3 : Value) : (((((w.setCell ⟨T, 0, none⟩ (c0)).setCell ⟨T, 1, none⟩ (c1)).setCell ⟨T, 2, none⟩ (c2)).setCell ⟨T, 3, none⟩ (c3))).heap[T]? = some (.cells #[c0, c1, c2, c3] e (0, 0)) := by
  have h0 := heap_setCell_same w T 0 _ _ c0 h
  have h1 := heap_setCell_same _ T 1 _ _ c1 h0
  have h2 := heap_setCell_same _ T 2 _ _ c2 h1
  have h3 := heap_setCell_same _ T 3 _ _ c3 h2
  simpa using h3
theorem four_chg (w : World) (T : Nat) (c0 c1 c2 c3 : Value) : Chg (· = T) w (((((w.setCell ⟨T, 0, none⟩ (c0)).setCell ⟨T, 1, none⟩ (c1)).setCell ⟨T, 2, none⟩ (c2)).setCell ⟨T, 3, none⟩ (c3))) :=
  (((Chg.refl (· = T) w |>.setCell (p := ⟨T, 0, none⟩) (.inl rfl) c0).setCell (p := ⟨T, 1, none⟩) (.inl rfl) c1).setCell (p := ⟨T, 2, none⟩) (.inl rfl) c2).setCell (p := ⟨T, 3, none⟩) (.inl rfl) c3

set_option maxRecDepth 100000 in
set_option maxHeartbeats 1000000 in
theorem segRect_any (x1 x2 : Int) (xA : Option Addr) (xn xc : Nat) (x3 x4 x5 x6 x7 x8 : Int) (w : World) : Calls Tryz.prog 45 #[.agg #[.int .i64 x1, .int .i64 x2, .slice xA xn xc, .int .i64 x3, .int .i64 x4, .int .i64 x5, .int .i64 x6, .int .i64 x7, .int .i64 x8]] w fun e w' => e = .returned (.agg #[.int .i64 x3, .int .i64 x4, .int .i64 x5, .int .i64 x6]) ∧ Below w.heap.size w w' := by
  go_enter Tryz.func45, Tryz.ntmps45
  go_wp2_with fail
  exact bodyPost_ret (v := .agg #[.int .i64 x3, .int .i64 x4, .int .i64 x5, .int .i64 x6]) (by simp [results, Tryz.results45, go_sem]) rfl ⟨rfl, (Below.of_alloc _).alloc (by simp) _⟩

set_option maxRecDepth 100000 in
set_option maxHeartbeats 1000000 in
theorem refRect_any (x1 x2 : Int) (xA : Option Addr) (xn xc : Nat) (x3 x4 x5 x6 x7 x8 : Int) (w : World) : Calls Tryz.prog 48 #[.agg #[.int .i64 x1, .int .i64 x2, .slice xA xn xc, .int .i64 x3, .int .i64 x4, .int .i64 x5, .int .i64 x6, .int .i64 x7, .int .i64 x8]] w fun e w' => e = .returned (.agg #[.int .i64 x3, .int .i64 x4, .int .i64 x5, .int .i64 x6]) ∧ Below w.heap.size w w' := by
  go_enter Tryz.func48, Tryz.ntmps48
  go_wp2_with fail
  exact bodyPost_ret (v := .agg #[.int .i64 x3, .int .i64 x4, .int .i64 x5, .int .i64 x6]) (by simp [results, Tryz.results48, go_sem]) rfl ⟨rfl, (Below.of_alloc _).alloc (by simp) _⟩

set_option maxRecDepth 100000 in
set_option maxHeartbeats 1000000 in
theorem join_any (a b c d : Int) (w : World) : Calls Tryz.prog 87 #[.agg #[.int .i64 a, .int .i64 b], .agg #[.int .i64 c, .int .i64 d]] w fun e w' => e = .returned (.agg #[.int .i64 (min a c), .int .i64 (max b d)]) ∧ Below w.heap.size w w' := by
  go_enter Tryz.func87, Tryz.ntmps87
  go_wp2_with fail
  exact bodyPost_ret (v := .agg #[.int .i64 (min a c), .int .i64 (max b d)]) (by simp [results, Tryz.results87, go_sem]) rfl ⟨rfl, ((Below.of_alloc _).alloc (by simp) _).alloc (by simp; omega) _⟩

set_option maxRecDepth 100000 in
set_option maxHeartbeats 1000000 in
theorem refAround2_any (a b p q c d r s : Int) (w : World) : Calls Tryz.prog 71 #[.agg #[.int .i64 a, .int .i64 b, .int .i64 p, .int .i64 q], .agg #[.int .i64 c, .int .i64 d, .int .i64 r, .int .i64 s]] w fun e w' => e = .returned (.agg #[.int .i64 (min a c), .int .i64 (max b d), .int .i64 (min p r), .int .i64 (max q s)]) ∧ Below w.heap.size w w' := by
  go_enter Tryz.func71, Tryz.ntmps71
  go_wp2_with fail
  exact bodyPost_ret (v := .agg #[.int .i64 (min a c), .int .i64 (max b d), .int .i64 (min p r), .int .i64 (max q s)]) (by simp [results, Tryz.results71, go_sem]) rfl ⟨rfl, ((Below.of_alloc _).alloc (by simp) _).alloc (by simp; omega) _⟩

set_option maxRecDepth 1000000 in
set_option maxHeartbeats 4000000 in
theorem bounds_any (v : Value) (ps : List VP) (w : World) (hv : RdVs w (· < w.heap.size) v ps) (hne : 0 < ps.length) :
    Calls Tryz.prog 50 #[v] w fun e w' => e = .returned (.agg (bndF (ps.map (·.2))).enc.toArray) ∧ Below w.heap.size w w' := by
  obtain ⟨A, c, rfl, hc1, hc2, hc3⟩ := hv.1.open_
  unfold maxLen at hc2
  have hnl : 0 < (ps.map (·.2)).length := by rw [List.length_map]; exact hne
  rw [bndF_eq hnl]
  obtain ⟨xs, hxs⟩ : ∃ xs, xs = ps.map (·.2) := ⟨_, rfl⟩
  have hxl : xs.length = ps.length := by rw [hxs, List.length_map]
  obtain ⟨res, hres⟩ : ∃ r, r = (ps.map (·.2)).foldl (fun a v => joinR a (recOf v)) (recOf ((ps.map (·.2))[0])) := ⟨_, rfl⟩
  rw [← hres]
  obtain ⟨W, hW⟩ : ∃ W, W = w.alloc (.cells #[.int .i64 0, .int .i64 0, .int .i64 0, .int .i64 0] 26) := ⟨_, rfl⟩
  have hbW : Below w.heap.size w W := by rw [hW]; exact Below.of_alloc _
  have hWs : W.heap.size = w.heap.size + 1 := by rw [hW]; simp
  have hQ : W.heap[w.heap.size]? = some (.cells #[.int .i64 0, .int .i64 0, .int .i64 0, .int .i64 0] 26 (0, 0)) := by rw [hW]; exact heap_alloc_new _ _
  obtain ⟨b, off, rfl, hF, hcl, hx⟩ := RdVs.at_ (hv.below hbW) hne
  have hstart : res = (xs.drop 0).foldl (fun a v => joinR a (recOf v)) (recOf ps[0].2) := by rw [hres, hxs]; simp
  have hdr : ∀ i (h : i < ps.length) (r : Rec), (xs.drop i).foldl (fun a v => joinR a (recOf v)) r = (xs.drop (i + 1)).foldl (fun a v => joinR a (recOf v)) (joinR r (recOf ps[i].2)) := fun i h r => by
    have h' : i < xs.length := by omega
    rw [List.drop_eq_getElem_cons h', List.foldl_cons]
    subst hxs
    rw [List.getElem_map]
  have HDR := Lib.hid hdr
  have HV := Lib.hid (hv.below hbW)
  have HXL := Lib.hid hxl
  generalize ps[0] = p at *
  obtain ⟨⟨x1, x2, xA, xn, xc, x3, x4, x5, x6, x7, x8⟩, x⟩ := p
  simp only at hcl hx hstart
  rw [show recOf x = ⟨x3, x4, x5, x6⟩ from by unfold recOf; rw [← hx.vf, ← hx.vt, ← hx.sf, ← hx.st]] at hstart
  have g0 : W.cell? ⟨b, off + 0 * 9, none⟩ = some (.int .i64 x1) := hcl 0 _ (by decide) rfl
  have g1 : W.cell? ⟨b, off + 0 * 9 + 1, none⟩ = some (.int .i64 x2) := hcl 1 _ (by decide) rfl
  have g2 : W.cell? ⟨b, off + 0 * 9 + 2, none⟩ = some (.slice xA xn xc) := hcl 2 _ (by decide) rfl
  have g3 : W.cell? ⟨b, off + 0 * 9 + 3, none⟩ = some (.int .i64 x3) := hcl 3 _ (by decide) rfl
  have g4 : W.cell? ⟨b, off + 0 * 9 + 4, none⟩ = some (.int .i64 x4) := hcl 4 _ (by decide) rfl
  have g5 : W.cell? ⟨b, off + 0 * 9 + 5, none⟩ = some (.int .i64 x5) := hcl 5 _ (by decide) rfl
  have g6 : W.cell? ⟨b, off + 0 * 9 + 6, none⟩ = some (.int .i64 x6) := hcl 6 _ (by decide) rfl
  have g7 : W.cell? ⟨b, off + 0 * 9 + 7, none⟩ = some (.int .i64 x7) := hcl 7 _ (by decide) rfl
  have g8 : W.cell? ⟨b, off + 0 * 9 + 8, none⟩ = some (.int .i64 x8) := hcl 8 _ (by decide) rfl
  rw [Nat.zero_mul, Nat.add_zero] at g0 g1 g2 g3 g4 g5 g6 g7 g8
  have HST := Lib.hid hstart
  have HQ := Lib.hid hQ
  have HBW := Lib.hid hbW
  clear hcl hx hv hdr hstart hres hxs hxl hnl hQ hbW hc3
  go_enter Tryz.func50, Tryz.ntmps50
  rw [hW] at g0 g1 g2 g3 g4 g5 g6 g7 g8
  go_wp2_with fail
  rw [← hW]
  clear hW g0 g1 g2 g3 g4 g5 g6 g7 g8
  (with_reducible refine (segRect_any _ _ _ _ _ _ _ _ _ _ _ W).mono ?_)
  rintro _ w1 ⟨rfl, hb1⟩
  obtain ⟨T, hT⟩ : ∃ T, T = w1.heap.size := ⟨_, rfl⟩
  obtain ⟨W1, hW1⟩ : ∃ W1, W1 = w1.alloc (.cells #[.int .i64 x3, .int .i64 x4, .int .i64 x5, .int .i64 x6] 26) := ⟨_, rfl⟩
  have hTW : W1.heap[T]? = some (.cells #[.int .i64 x3, .int .i64 x4, .int .i64 x5, .int .i64 x6] 26 (0, 0)) := by rw [hW1, hT]; exact heap_alloc_new _ _
  have hB1 : Below W.heap.size W W1 := by rw [hW1]; exact hb1.alloc hb1.size _
  have hTs : W.heap.size ≤ T := by rw [hT]; exact hb1.size
  have HTW := Lib.hid hTW
  have HB1 := Lib.hid hB1
  clear hTW hB1 hb1
  go_wp2_with fail
  rw [← hT, ← hW1]
  clear hT hW1
  go_loopw [12] (fun vi wr => ∃ (i : Nat) (r1 r2 r3 r4 : Int), vi = .int .i64 (i : Int) ∧ i ≤ ps.length ∧ Hid (wr.heap[T]? = some (.cells #[.int .i64 r1, .int .i64 r2, .int .i64 r3, .int .i64 r4] 26 (0, 0))) ∧ Hid (Below W.heap.size W wr) ∧ Hid (res = (xs.drop i).foldl (fun a v => joinR a (recOf v)) ⟨r1, r2, r3, r4⟩)) (fun vi _ => ps.length - (intOf vi).toNat)
  case atStart => exact ⟨0, x3, x4, x5, x6, rfl, Nat.zero_le _, HTW, HB1, HST⟩
  case round =>
    obtain ⟨i, r1, r2, r3, r4, rfl, hi, HT, HB, HR⟩ := hrel
    obtain ⟨wi, rfl⟩ : ∃ wi : World, wi = wr := ⟨_, rfl⟩
    have hsi := HB.out.size
    have hTl : T < wi.heap.size := (Array.getElem?_eq_some_iff.1 HT.out).1
    have t0 : wi.cell? ⟨T, 0, none⟩ = some (.int .i64 r1) := cell_of_row wi T 0 _ _ _ HT.out
    have t1 : wi.cell? ⟨T, 1, none⟩ = some (.int .i64 r2) := cell_of_row wi T 1 _ _ _ HT.out
    have t2 : wi.cell? ⟨T, 2, none⟩ = some (.int .i64 r3) := cell_of_row wi T 2 _ _ _ HT.out
    have t3 : wi.cell? ⟨T, 3, none⟩ = some (.int .i64 r4) := cell_of_row wi T 3 _ _ _ HT.out
    by_cases hlt : i < ps.length
    case neg =>
      have HF : Hid (res = ⟨r1, r2, r3, r4⟩) := Lib.hid (by rw [HR.out, List.drop_of_length_le (by have := HXL.out; omega)]; rfl)
      have hq := (HB.out.block w.heap.size (by omega)).trans HQ.out
      have p0 : wi.cell? ⟨w.heap.size, 0, none⟩ = some (.int .i64 0) := cell_of_row wi _ 0 _ _ _ hq
      have p1 : wi.cell? ⟨w.heap.size, 1, none⟩ = some (.int .i64 0) := cell_of_row wi _ 1 _ _ _ hq
      have p2 : wi.cell? ⟨w.heap.size, 2, none⟩ = some (.int .i64 0) := cell_of_row wi _ 2 _ _ _ hq
      have p3 : wi.cell? ⟨w.heap.size, 3, none⟩ = some (.int .i64 0) := cell_of_row wi _ 3 _ _ _ hq
      have z0 : wi.frozen? ⟨w.heap.size, 0, none⟩ = false := frozen_of_row wi _ 0 _ _ hq
      have z1 : wi.frozen? ⟨w.heap.size, 1, none⟩ = false := frozen_of_row wi _ 1 _ _ hq
      have z2 : wi.frozen? ⟨w.heap.size, 2, none⟩ = false := frozen_of_row wi _ 2 _ _ hq
      have z3 : wi.frozen? ⟨w.heap.size, 3, none⟩ = false := frozen_of_row wi _ 3 _ _ hq
      have HQ4 := Lib.hid (four_set hq (.int .i64 r1) (.int .i64 r2) (.int .i64 r3) (.int .i64 r4))
      have HC4 := Lib.hid (four_chg wi w.heap.size (.int .i64 r1) (.int .i64 r2) (.int .i64 r3) (.int .i64 r4))
      clear hq
      go_wp2_with fail
      have hq4 := HQ4.out
      have hc4 := HC4.out
      generalize ((((wi.setCell ⟨w.heap.size, 0, none⟩ (.int .i64 r1)).setCell ⟨w.heap.size, 1, none⟩ (.int .i64 r2)).setCell ⟨w.heap.size, 2, none⟩ (.int .i64 r3)).setCell ⟨w.heap.size, 3, none⟩ (.int .i64 r4)) = Y at *
      have y0 : Y.cell? ⟨w.heap.size, 0, none⟩ = some (.int .i64 r1) := cell_of_row Y _ 0 _ _ _ hq4
      have y1 : Y.cell? ⟨w.heap.size, 1, none⟩ = some (.int .i64 r2) := cell_of_row Y _ 1 _ _ _ hq4
      have y2 : Y.cell? ⟨w.heap.size, 2, none⟩ = some (.int .i64 r3) := cell_of_row Y _ 2 _ _ _ hq4
      have y3 : Y.cell? ⟨w.heap.size, 3, none⟩ = some (.int .i64 r4) := cell_of_row Y _ 3 _ _ _ hq4
      have hBY : Below w.heap.size w Y := (HBW.out.trans (HB.out.mono (by omega))).trans (hc4.below (by omega) (fun b hb => by omega))
      refine bodyPost_ret (v := .agg #[.int .i64 r1, .int .i64 r2, .int .i64 r3, .int .i64 r4]) (by simp [results, Tryz.results50, go_sem, y0, y1, y2, y3]) rfl ⟨?_, hBY⟩
      rw [HF.out]; rfl
    case pos =>
      obtain ⟨b', off', e', hF2, hcl, hx⟩ := RdVs.at_ (HV.out.below HB.out) hlt
      injection e' with e'
      injection e' with e1 e2
      subst e1; subst e2
      have hdi := HDR.out i hlt
      generalize ps[i] = p at *
      obtain ⟨⟨u1, u2, uA, un, uc, u3, u4, u5, u6, u7, u8⟩, u⟩ := p
      simp only at hcl hx hdi
      rw [show recOf u = ⟨u3, u4, u5, u6⟩ from by unfold recOf; rw [← hx.vf, ← hx.vt, ← hx.sf, ← hx.st]] at hdi
      have HN : Hid (res = (xs.drop (i + 1)).foldl (fun a v => joinR a (recOf v)) ⟨min r1 u3, max r2 u4, min r3 u5, max r4 u6⟩) := Lib.hid (by rw [HR.out, hdi]; rfl)
      have g0 : wi.cell? ⟨b, off + i * 9, none⟩ = some (.int .i64 u1) := hcl 0 _ (by decide) rfl
      have g1 : wi.cell? ⟨b, off + i * 9 + 1, none⟩ = some (.int .i64 u2) := hcl 1 _ (by decide) rfl
      have g2 : wi.cell? ⟨b, off + i * 9 + 2, none⟩ = some (.slice uA un uc) := hcl 2 _ (by decide) rfl
      have g3 : wi.cell? ⟨b, off + i * 9 + 3, none⟩ = some (.int .i64 u3) := hcl 3 _ (by decide) rfl
      have g4 : wi.cell? ⟨b, off + i * 9 + 4, none⟩ = some (.int .i64 u4) := hcl 4 _ (by decide) rfl
      have g5 : wi.cell? ⟨b, off + i * 9 + 5, none⟩ = some (.int .i64 u5) := hcl 5 _ (by decide) rfl
      have g6 : wi.cell? ⟨b, off + i * 9 + 6, none⟩ = some (.int .i64 u6) := hcl 6 _ (by decide) rfl
      have g7 : wi.cell? ⟨b, off + i * 9 + 7, none⟩ = some (.int .i64 u7) := hcl 7 _ (by decide) rfl
      have g8 : wi.cell? ⟨b, off + i * 9 + 8, none⟩ = some (.int .i64 u8) := hcl 8 _ (by decide) rfl
      clear hcl hx hdi
      obtain ⟨wb, hwb⟩ : ∃ wb, wb = wi.alloc (.cells #[.int .i64 u1, .int .i64 u2, .slice uA un uc, .int .i64 u3, .int .i64 u4, .int .i64 u5, .int .i64 u6, .int .i64 u7, .int .i64 u8] 61) := ⟨_, rfl⟩
      have hbb : Below wi.heap.size wi wb := by rw [hwb]; exact Below.of_alloc _
      have hV : wb.heap[wi.heap.size]? = some (.cells #[.int .i64 u1, .int .i64 u2, .slice uA un uc, .int .i64 u3, .int .i64 u4, .int .i64 u5, .int .i64 u6, .int .i64 u7, .int .i64 u8] 61 (0, 0)) := by rw [hwb]; exact heap_alloc_new _ _
      have hVl : wi.heap.size < wb.heap.size := by rw [hwb]; simp
      have hTb : wb.heap[T]? = some (.cells #[.int .i64 r1, .int .i64 r2, .int .i64 r3, .int .i64 r4] 26 (0, 0)) := (hbb.block T hTl).trans HT.out
      have hTlb : T < wb.heap.size := by omega
      go_wp2_with fail
      rw [← hwb]
      clear hwb g0 g1 g2 g3 g4 g5 g6 g7 g8 t0 t1 t2 t3
      have HV5 := Lib.hid hV
      have HT5 := Lib.hid hTb
      have HB5 := Lib.hid hbb
      clear hV hTb hbb
      refine wp_region_noPanic ?_
      refine beginT (S := (fun w' => Below wb.heap.size wb w')) 11 (by kernel_rfl) ?_ (fun hHeld => ?_)
      · exact (Below.refl _ _).drew
      refine takeT 0 (some 16) (v := ?_) rfl rfl (by kernel_rfl) (by kernel_rfl) (by kernel_rfl) (by kernel_rfl) (by rfl) hHeld (fun _ _ _ h => h) ?_ ?_
      rotate_left
      · intro w' hSw; (try dsimp only at hSw); go_simp <;> with_reducible rfl
      simp only [Act.put, List.setIfInBounds_toArray, List.set_cons_zero, List.set_cons_succ]
      refine takeT 1 (some 17) (v := ?_) rfl rfl (by kernel_rfl) (by kernel_rfl) (by kernel_rfl) (by kernel_rfl) (by rfl) hHeld (fun _ _ _ h => h) ?_ ?_
      rotate_left
      · intro w' hSw; (try dsimp only at hSw); have q0 := (World.cell?_of_block (w := wb) (a := ⟨T, 0, none⟩) (hSw.block T hTlb)).trans (cell_of_row wb T 0 _ _ _ HT5.out); have q1 := (World.cell?_of_block (w := wb) (a := ⟨T, 1, none⟩) (hSw.block T hTlb)).trans (cell_of_row wb T 1 _ _ _ HT5.out); go_simp <;> with_reducible rfl
      simp only [Act.put, List.setIfInBounds_toArray, List.set_cons_zero, List.set_cons_succ]
      refine takeT 2 (some 18) (v := ?_) rfl rfl (by kernel_rfl) (by kernel_rfl) (by kernel_rfl) (by kernel_rfl) (by rfl) hHeld (fun _ _ _ h => h) ?_ ?_
      rotate_left
      · intro w' hSw; (try dsimp only at hSw); go_simp <;> with_reducible rfl
      simp only [Act.put, List.setIfInBounds_toArray, List.set_cons_zero, List.set_cons_succ]
      refine takeT 3 (some 19) (v := ?_) rfl rfl (by kernel_rfl) (by kernel_rfl) (by kernel_rfl) (by kernel_rfl) (by rfl) hHeld (fun _ _ _ h => h) ?_ ?_
      rotate_left
      · intro w' hSw; (try dsimp only at hSw); have q3 := (World.cell?_of_block (w := wb) (a := ⟨wi.heap.size, 3, none⟩) (hSw.block wi.heap.size hVl)).trans (cell_of_row wb wi.heap.size 3 _ _ _ HV5.out); have q4 := (World.cell?_of_block (w := wb) (a := ⟨wi.heap.size, 4, none⟩) (hSw.block wi.heap.size hVl)).trans (cell_of_row wb wi.heap.size 4 _ _ _ HV5.out); go_simp <;> with_reducible rfl
      simp only [Act.put, List.setIfInBounds_toArray, List.set_cons_zero, List.set_cons_succ]
      refine takeT 5 (some 21) (v := ?_) rfl rfl (by kernel_rfl) (by kernel_rfl) (by kernel_rfl) (by kernel_rfl) (by rfl) hHeld (fun _ _ _ h => h) ?_ ?_
      rotate_left
      · intro w' hSw; (try dsimp only at hSw); go_simp <;> with_reducible rfl
      simp only [Act.put, List.setIfInBounds_toArray, List.set_cons_zero, List.set_cons_succ]
      refine takeT 6 (some 22) (v := ?_) rfl rfl (by kernel_rfl) (by kernel_rfl) (by kernel_rfl) (by kernel_rfl) (by rfl) hHeld (fun _ _ _ h => h) ?_ ?_
      rotate_left
      · intro w' hSw; (try dsimp only at hSw); have q2 := (World.cell?_of_block (w := wb) (a := ⟨T, 2, none⟩) (hSw.block T hTlb)).trans (cell_of_row wb T 2 _ _ _ HT5.out); have q3 := (World.cell?_of_block (w := wb) (a := ⟨T, 3, none⟩) (hSw.block T hTlb)).trans (cell_of_row wb T 3 _ _ _ HT5.out); go_simp <;> with_reducible rfl
      simp only [Act.put, List.setIfInBounds_toArray, List.set_cons_zero, List.set_cons_succ]
      refine takeT 7 (some 23) (v := ?_) rfl rfl (by kernel_rfl) (by kernel_rfl) (by kernel_rfl) (by kernel_rfl) (by rfl) hHeld (fun _ _ _ h => h) ?_ ?_
      rotate_left
      · intro w' hSw; (try dsimp only at hSw); go_simp <;> with_reducible rfl
      simp only [Act.put, List.setIfInBounds_toArray, List.set_cons_zero, List.set_cons_succ]
      refine takeT 8 (some 24) (v := ?_) rfl rfl (by kernel_rfl) (by kernel_rfl) (by kernel_rfl) (by kernel_rfl) (by rfl) hHeld (fun _ _ _ h => h) ?_ ?_
      rotate_left
      · intro w' hSw; (try dsimp only at hSw); have q5 := (World.cell?_of_block (w := wb) (a := ⟨wi.heap.size, 5, none⟩) (hSw.block wi.heap.size hVl)).trans (cell_of_row wb wi.heap.size 5 _ _ _ HV5.out); have q6 := (World.cell?_of_block (w := wb) (a := ⟨wi.heap.size, 6, none⟩) (hSw.block wi.heap.size hVl)).trans (cell_of_row wb wi.heap.size 6 _ _ _ HV5.out); go_simp <;> with_reducible rfl
      simp only [Act.put, List.setIfInBounds_toArray, List.set_cons_zero, List.set_cons_succ]
      refine callT 4 (some 20) (f := ?_) (args := ?_) rfl rfl (by kernel_rfl) (by rfl) ?_ ?_
      rotate_left 2
      · go_simp <;> first | (constructor <;> with_reducible rfl) | with_reducible rfl
      (with_reducible refine (join_any r1 r2 u3 u4 _).mono ?_)
      rintro _ v1 ⟨rfl, hb1'⟩
      have hb1 : Below wb.heap.size wb v1 := Below.undrew hb1'
      refine ⟨_, rfl, keepAnd ?_ (fun hNew => ?_)⟩
      · intro _; exact hb1
      have hNew := hNew (by decide)
      clear hHeld
      have hHeld := hNew
      clear hNew
      simp only [Act.put, List.setIfInBounds_toArray, List.set_cons_zero, List.set_cons_succ]
      refine callT 9 (some 25) (f := ?_) (args := ?_) rfl rfl (by kernel_rfl) (by rfl) ?_ ?_
      rotate_left 2
      · go_simp <;> first | (constructor <;> with_reducible rfl) | with_reducible rfl
      (with_reducible refine (join_any r3 r4 u5 u6 _).mono ?_)
      rintro _ v2 ⟨rfl, hb2'⟩
      have hb2 : Below wb.heap.size wb v2 := hb1.trans (hb2'.mono hb1.size)
      refine ⟨_, rfl, keepAnd ?_ (fun hNew => ?_)⟩
      · intro _; exact hb2
      have hNew := hNew (by decide)
      clear hHeld
      have hHeld := hNew
      clear hNew
      simp only [Act.put, List.setIfInBounds_toArray, List.set_cons_zero, List.set_cons_succ]
      refine takeT 10 (some 26) (v := ?_) rfl rfl (by kernel_rfl) (by kernel_rfl) (by kernel_rfl) (by kernel_rfl) (by rfl) hHeld (fun _ _ _ h => h) ?_ ?_
      rotate_left
      · intro w' hSw; (try dsimp only at hSw); go_simp <;> with_reducible rfl
      simp only [Act.put, List.setIfInBounds_toArray, List.set_cons_zero, List.set_cons_succ]
      refine skipRunT 11 none (w' := ((((v2.setCell ⟨T, 0, none⟩ (.int .i64 (min r1 u3))).setCell ⟨T, 1, none⟩ (.int .i64 (max r2 u4))).setCell ⟨T, 2, none⟩ (.int .i64 (min r3 u5))).setCell ⟨T, 3, none⟩ (.int .i64 (max r4 u6)))) rfl rfl (by kernel_rfl) (by rfl) ?_ (fun h => absurd rfl h) ?_
      · have hT6 := (hb2.block T hTlb).trans HT5.out; have q0 := cell_of_row v2 T 0 _ _ _ hT6; have z0 : v2.frozen? ⟨T, 0, none⟩ = false := frozen_of_row v2 T 0 _ _ hT6; have q1 := cell_of_row v2 T 1 _ _ _ hT6; have z1 : v2.frozen? ⟨T, 1, none⟩ = false := frozen_of_row v2 T 1 _ _ hT6; have q2 := cell_of_row v2 T 2 _ _ _ hT6; have z2 : v2.frozen? ⟨T, 2, none⟩ = false := frozen_of_row v2 T 2 _ _ hT6; have q3 := cell_of_row v2 T 3 _ _ _ hT6; have z3 : v2.frozen? ⟨T, 3, none⟩ = false := frozen_of_row v2 T 3 _ _ hT6; go_simp <;> with_reducible rfl
      clear hHeld
      simp only [Act.put]
      refine doneT (by kernel_rfl) ?_ _
      refine NoPanic.normal ?_
      have hT6 := (hb2.block T hTlb).trans HT5.out
      have hT7 := four_set hT6 (.int .i64 (min r1 u3)) (.int .i64 (max r2 u4)) (.int .i64 (min r3 u5)) (.int .i64 (max r4 u6))
      have hC7 := four_chg v2 T (.int .i64 (min r1 u3)) (.int .i64 (max r2 u4)) (.int .i64 (min r3 u5)) (.int .i64 (max r4 u6))
      generalize ((((v2.setCell ⟨T, 0, none⟩ (.int .i64 (min r1 u3))).setCell ⟨T, 1, none⟩ (.int .i64 (max r2 u4))).setCell ⟨T, 2, none⟩ (.int .i64 (min r3 u5))).setCell ⟨T, 3, none⟩ (.int .i64 (max r4 u6))) = Y at *
      have hBv : Below W.heap.size W v2 := HB.out.trans ((HB5.out.trans (hb2.mono (by omega))).mono hsi)
      have hBY : Below W.heap.size W Y := hBv.trans (hC7.below hBv.size (fun b hb => by omega))
      have HT7 := Lib.hid hT7
      have HBY := Lib.hid hBY
      clear hT7 hBY hC7 hT6 hBv
      go_wp2_with fail
      go_roundw
      case rel => exact ⟨i + 1, _, _, _, _, by go_num, by omega, HT7, HBY, HN⟩
      case measure => simp [intOf]; omega

set_option maxRecDepth 1000000 in
set_option maxHeartbeats 4000000 in
theorem refAround_any (v : Value) (ps : List VP) (w : World) (hv : RdVs w (· < w.heap.size) v ps) (hne : 0 < ps.length) :
    Calls Tryz.prog 33 #[v] w fun e w' => e = .returned (.agg (bndF (ps.map (·.2))).enc.toArray) ∧ Below w.heap.size w w' := by
  obtain ⟨A, c, rfl, hc1, hc2, hc3⟩ := hv.1.open_
  unfold maxLen at hc2
  have hnl : 0 < (ps.map (·.2)).length := by rw [List.length_map]; exact hne
  rw [bndF_eq hnl]
  obtain ⟨xs, hxs⟩ : ∃ xs, xs = ps.map (·.2) := ⟨_, rfl⟩
  have hxl : xs.length = ps.length := by rw [hxs, List.length_map]
  obtain ⟨res, hres⟩ : ∃ r, r = (ps.map (·.2)).foldl (fun a v => joinR a (recOf v)) (recOf ((ps.map (·.2))[0])) := ⟨_, rfl⟩
  rw [← hres]
  obtain ⟨W, hW⟩ : ∃ W, W = w.alloc (.cells #[.int .i64 0, .int .i64 0, .int .i64 0, .int .i64 0] 26) := ⟨_, rfl⟩
  have hbW : Below w.heap.size w W := by rw [hW]; exact Below.of_alloc _
  have hWs : W.heap.size = w.heap.size + 1 := by rw [hW]; simp
  have hQ : W.heap[w.heap.size]? = some (.cells #[.int .i64 0, .int .i64 0, .int .i64 0, .int .i64 0] 26 (0, 0)) := by rw [hW]; exact heap_alloc_new _ _
  obtain ⟨b, off, rfl, hF, hcl, hx⟩ := RdVs.at_ (hv.below hbW) hne
  have hstart : res = (xs.drop 0).foldl (fun a v => joinR a (recOf v)) (recOf ps[0].2) := by rw [hres, hxs]; simp
  have hdr : ∀ i (h : i < ps.length) (r : Rec), (xs.drop i).foldl (fun a v => joinR a (recOf v)) r = (xs.drop (i + 1)).foldl (fun a v => joinR a (recOf v)) (joinR r (recOf ps[i].2)) := fun i h r => by
    have h' : i < xs.length := by omega
    rw [List.drop_eq_getElem_cons h', List.foldl_cons]
    subst hxs
    rw [List.getElem_map]
  have HDR := Lib.hid hdr
  have HV := Lib.hid (hv.below hbW)
  have HXL := Lib.hid hxl
  generalize ps[0] = p at *
  obtain ⟨⟨x1, x2, xA, xn, xc, x3, x4, x5, x6, x7, x8⟩, x⟩ := p
  simp only at hcl hx hstart
  rw [show recOf x = ⟨x3, x4, x5, x6⟩ from by unfold recOf; rw [← hx.vf, ← hx.vt, ← hx.sf, ← hx.st]] at hstart
  have g0 : W.cell? ⟨b, off + 0 * 9, none⟩ = some (.int .i64 x1) := hcl 0 _ (by decide) rfl
  have g1 : W.cell? ⟨b, off + 0 * 9 + 1, none⟩ = some (.int .i64 x2) := hcl 1 _ (by decide) rfl
  have g2 : W.cell? ⟨b, off + 0 * 9 + 2, none⟩ = some (.slice xA xn xc) := hcl 2 _ (by decide) rfl
  have g3 : W.cell? ⟨b, off + 0 * 9 + 3, none⟩ = some (.int .i64 x3) := hcl 3 _ (by decide) rfl
  have g4 : W.cell? ⟨b, off + 0 * 9 + 4, none⟩ = some (.int .i64 x4) := hcl 4 _ (by decide) rfl
  have g5 : W.cell? ⟨b, off + 0 * 9 + 5, none⟩ = some (.int .i64 x5) := hcl 5 _ (by decide) rfl
  have g6 : W.cell? ⟨b, off + 0 * 9 + 6, none⟩ = some (.int .i64 x6) := hcl 6 _ (by decide) rfl
  have g7 : W.cell? ⟨b, off + 0 * 9 + 7, none⟩ = some (.int .i64 x7) := hcl 7 _ (by decide) rfl
  have g8 : W.cell? ⟨b, off + 0 * 9 + 8, none⟩ = some (.int .i64 x8) := hcl 8 _ (by decide) rfl
  rw [Nat.zero_mul, Nat.add_zero] at g0 g1 g2 g3 g4 g5 g6 g7 g8
  have HST := Lib.hid hstart
  have HQ := Lib.hid hQ
  have HBW := Lib.hid hbW
  clear hcl hx hv hdr hstart hres hxs hxl hnl hQ hbW hc3
  go_enter Tryz.func33, Tryz.ntmps33
  rw [hW] at g0 g1 g2 g3 g4 g5 g6 g7 g8
  go_wp2_with fail
  rw [← hW]
  clear hW g0 g1 g2 g3 g4 g5 g6 g7 g8
  (with_reducible refine (refRect_any _ _ _ _ _ _ _ _ _ _ _ W).mono ?_)
  rintro _ w1 ⟨rfl, hb1⟩
  obtain ⟨T, hT⟩ : ∃ T, T = w1.heap.size := ⟨_, rfl⟩
  obtain ⟨W1, hW1⟩ : ∃ W1, W1 = w1.alloc (.cells #[.int .i64 x3, .int .i64 x4, .int .i64 x5, .int .i64 x6] 26) := ⟨_, rfl⟩
  have hTW : W1.heap[T]? = some (.cells #[.int .i64 x3, .int .i64 x4, .int .i64 x5, .int .i64 x6] 26 (0, 0)) := by rw [hW1, hT]; exact heap_alloc_new _ _
  have hB1 : Below W.heap.size W W1 := by rw [hW1]; exact hb1.alloc hb1.size _
  have hTs : W.heap.size ≤ T := by rw [hT]; exact hb1.size
  have HTW := Lib.hid hTW
  have HB1 := Lib.hid hB1
  clear hTW hB1 hb1
  go_wp2_with fail
  rw [← hT, ← hW1]
  clear hT hW1
  go_loopw [12] (fun vi wr => ∃ (i : Nat) (r1 r2 r3 r4 : Int), vi = .int .i64 (i : Int) ∧ i ≤ ps.length ∧ Hid (wr.heap[T]? = some (.cells #[.int .i64 r1, .int .i64 r2, .int .i64 r3, .int .i64 r4] 26 (0, 0))) ∧ Hid (Below W.heap.size W wr) ∧ Hid (res = (xs.drop i).foldl (fun a v => joinR a (recOf v)) ⟨r1, r2, r3, r4⟩)) (fun vi _ => ps.length - (intOf vi).toNat)
  case atStart => exact ⟨0, x3, x4, x5, x6, rfl, Nat.zero_le _, HTW, HB1, HST⟩
  case round =>
    obtain ⟨i, r1, r2, r3, r4, rfl, hi, HT, HB, HR⟩ := hrel
    obtain ⟨wi, rfl⟩ : ∃ wi : World, wi = wr := ⟨_, rfl⟩
    have hsi := HB.out.size
    have hTl : T < wi.heap.size := (Array.getElem?_eq_some_iff.1 HT.out).1
    have t0 : wi.cell? ⟨T, 0, none⟩ = some (.int .i64 r1) := cell_of_row wi T 0 _ _ _ HT.out
    have t1 : wi.cell? ⟨T, 1, none⟩ = some (.int .i64 r2) := cell_of_row wi T 1 _ _ _ HT.out
    have t2 : wi.cell? ⟨T, 2, none⟩ = some (.int .i64 r3) := cell_of_row wi T 2 _ _ _ HT.out
    have t3 : wi.cell? ⟨T, 3, none⟩ = some (.int .i64 r4) := cell_of_row wi T 3 _ _ _ HT.out
    by_cases hlt : i < ps.length
    case neg =>
      have HF : Hid (res = ⟨r1, r2, r3, r4⟩) := Lib.hid (by rw [HR.out, List.drop_of_length_le (by have := HXL.out; omega)]; rfl)
      have hq := (HB.out.block w.heap.size (by omega)).trans HQ.out
      have p0 : wi.cell? ⟨w.heap.size, 0, none⟩ = some (.int .i64 0) := cell_of_row wi _ 0 _ _ _ hq
      have p1 : wi.cell? ⟨w.heap.size, 1, none⟩ = some (.int .i64 0) := cell_of_row wi _ 1 _ _ _ hq
      have p2 : wi.cell? ⟨w.heap.size, 2, none⟩ = some (.int .i64 0) := cell_of_row wi _ 2 _ _ _ hq
      have p3 : wi.cell? ⟨w.heap.size, 3, none⟩ = some (.int .i64 0) := cell_of_row wi _ 3 _ _ _ hq
      have z0 : wi.frozen? ⟨w.heap.size, 0, none⟩ = false := frozen_of_row wi _ 0 _ _ hq
      have z1 : wi.frozen? ⟨w.heap.size, 1, none⟩ = false := frozen_of_row wi _ 1 _ _ hq
      have z2 : wi.frozen? ⟨w.heap.size, 2, none⟩ = false := frozen_of_row wi _ 2 _ _ hq
      have z3 : wi.frozen? ⟨w.heap.size, 3, none⟩ = false := frozen_of_row wi _ 3 _ _ hq
      have HQ4 := Lib.hid (four_set hq (.int .i64 r1) (.int .i64 r2) (.int .i64 r3) (.int .i64 r4))
      have HC4 := Lib.hid (four_chg wi w.heap.size (.int .i64 r1) (.int .i64 r2) (.int .i64 r3) (.int .i64 r4))
      clear hq
      go_wp2_with fail
      have hq4 := HQ4.out
      have hc4 := HC4.out
      generalize ((((wi.setCell ⟨w.heap.size, 0, none⟩ (.int .i64 r1)).setCell ⟨w.heap.size, 1, none⟩ (.int .i64 r2)).setCell ⟨w.heap.size, 2, none⟩ (.int .i64 r3)).setCell ⟨w.heap.size, 3, none⟩ (.int .i64 r4)) = Y at *
      have y0 : Y.cell? ⟨w.heap.size, 0, none⟩ = some (.int .i64 r1) := cell_of_row Y _ 0 _ _ _ hq4
      have y1 : Y.cell? ⟨w.heap.size, 1, none⟩ = some (.int .i64 r2) := cell_of_row Y _ 1 _ _ _ hq4
      have y2 : Y.cell? ⟨w.heap.size, 2, none⟩ = some (.int .i64 r3) := cell_of_row Y _ 2 _ _ _ hq4
      have y3 : Y.cell? ⟨w.heap.size, 3, none⟩ = some (.int .i64 r4) := cell_of_row Y _ 3 _ _ _ hq4
      have hBY : Below w.heap.size w Y := (HBW.out.trans (HB.out.mono (by omega))).trans (hc4.below (by omega) (fun b hb => by omega))
      refine bodyPost_ret (v := .agg #[.int .i64 r1, .int .i64 r2, .int .i64 r3, .int .i64 r4]) (by simp [results, Tryz.results33, go_sem, y0, y1, y2, y3]) rfl ⟨?_, hBY⟩
      rw [HF.out]; rfl
    case pos =>
      obtain ⟨b', off', e', hF2, hcl, hx⟩ := RdVs.at_ (HV.out.below HB.out) hlt
      injection e' with e'
      injection e' with e1 e2
      subst e1; subst e2
      have hdi := HDR.out i hlt
      generalize ps[i] = p at *
      obtain ⟨⟨u1, u2, uA, un, uc, u3, u4, u5, u6, u7, u8⟩, u⟩ := p
      simp only at hcl hx hdi
      rw [show recOf u = ⟨u3, u4, u5, u6⟩ from by unfold recOf; rw [← hx.vf, ← hx.vt, ← hx.sf, ← hx.st]] at hdi
      have HN : Hid (res = (xs.drop (i + 1)).foldl (fun a v => joinR a (recOf v)) ⟨min r1 u3, max r2 u4, min r3 u5, max r4 u6⟩) := Lib.hid (by rw [HR.out, hdi]; rfl)
      have g0 : wi.cell? ⟨b, off + i * 9, none⟩ = some (.int .i64 u1) := hcl 0 _ (by decide) rfl
      have g1 : wi.cell? ⟨b, off + i * 9 + 1, none⟩ = some (.int .i64 u2) := hcl 1 _ (by decide) rfl
      have g2 : wi.cell? ⟨b, off + i * 9 + 2, none⟩ = some (.slice uA un uc) := hcl 2 _ (by decide) rfl
      have g3 : wi.cell? ⟨b, off + i * 9 + 3, none⟩ = some (.int .i64 u3) := hcl 3 _ (by decide) rfl
      have g4 : wi.cell? ⟨b, off + i * 9 + 4, none⟩ = some (.int .i64 u4) := hcl 4 _ (by decide) rfl
      have g5 : wi.cell? ⟨b, off + i * 9 + 5, none⟩ = some (.int .i64 u5) := hcl 5 _ (by decide) rfl
      have g6 : wi.cell? ⟨b, off + i * 9 + 6, none⟩ = some (.int .i64 u6) := hcl 6 _ (by decide) rfl
      have g7 : wi.cell? ⟨b, off + i * 9 + 7, none⟩ = some (.int .i64 u7) := hcl 7 _ (by decide) rfl
      have g8 : wi.cell? ⟨b, off + i * 9 + 8, none⟩ = some (.int .i64 u8) := hcl 8 _ (by decide) rfl
      clear hcl hx hdi
      obtain ⟨wb, hwb⟩ : ∃ wb, wb = wi.alloc (.cells #[.int .i64 u1, .int .i64 u2, .slice uA un uc, .int .i64 u3, .int .i64 u4, .int .i64 u5, .int .i64 u6, .int .i64 u7, .int .i64 u8] 61) := ⟨_, rfl⟩
      have hbb : Below wi.heap.size wi wb := by rw [hwb]; exact Below.of_alloc _
      have hV : wb.heap[wi.heap.size]? = some (.cells #[.int .i64 u1, .int .i64 u2, .slice uA un uc, .int .i64 u3, .int .i64 u4, .int .i64 u5, .int .i64 u6, .int .i64 u7, .int .i64 u8] 61 (0, 0)) := by rw [hwb]; exact heap_alloc_new _ _
      have hVl : wi.heap.size < wb.heap.size := by rw [hwb]; simp
      have hTb : wb.heap[T]? = some (.cells #[.int .i64 r1, .int .i64 r2, .int .i64 r3, .int .i64 r4] 26 (0, 0)) := (hbb.block T hTl).trans HT.out
      have hTlb : T < wb.heap.size := by omega
      go_wp2_with fail
      rw [← hwb]
      clear hwb g0 g1 g2 g3 g4 g5 g6 g7 g8 t0 t1 t2 t3
      have HV5 := Lib.hid hV
      have HT5 := Lib.hid hTb
      have HB5 := Lib.hid hbb
      clear hV hTb hbb
      refine wp_region_noPanic ?_
      refine beginT (S := (fun w' => Below wb.heap.size wb w')) 4 (by kernel_rfl) ?_ (fun hHeld => ?_)
      · exact (Below.refl _ _).drew
      refine takeT 0 (some 16) (v := ?_) rfl rfl (by kernel_rfl) (by kernel_rfl) (by kernel_rfl) (by kernel_rfl) (by rfl) hHeld (fun _ _ _ h => h) ?_ ?_
      rotate_left
      · intro w' hSw; (try dsimp only at hSw); have q0 := (World.cell?_of_block (w := wb) (a := ⟨T, 0, none⟩) (hSw.block T hTlb)).trans (cell_of_row wb T 0 _ _ _ HT5.out); have q1 := (World.cell?_of_block (w := wb) (a := ⟨T, 1, none⟩) (hSw.block T hTlb)).trans (cell_of_row wb T 1 _ _ _ HT5.out); have q2 := (World.cell?_of_block (w := wb) (a := ⟨T, 2, none⟩) (hSw.block T hTlb)).trans (cell_of_row wb T 2 _ _ _ HT5.out); have q3 := (World.cell?_of_block (w := wb) (a := ⟨T, 3, none⟩) (hSw.block T hTlb)).trans (cell_of_row wb T 3 _ _ _ HT5.out); go_simp <;> with_reducible rfl
      simp only [Act.put, List.setIfInBounds_toArray, List.set_cons_zero, List.set_cons_succ]
      refine takeT 1 (some 17) (v := ?_) rfl rfl (by kernel_rfl) (by kernel_rfl) (by kernel_rfl) (by kernel_rfl) (by rfl) hHeld (fun _ _ _ h => h) ?_ ?_
      rotate_left
      · intro w' hSw; (try dsimp only at hSw); have q0 := (World.cell?_of_block (w := wb) (a := ⟨wi.heap.size, 0, none⟩) (hSw.block wi.heap.size hVl)).trans (cell_of_row wb wi.heap.size 0 _ _ _ HV5.out); have q1 := (World.cell?_of_block (w := wb) (a := ⟨wi.heap.size, 1, none⟩) (hSw.block wi.heap.size hVl)).trans (cell_of_row wb wi.heap.size 1 _ _ _ HV5.out); have q2 := (World.cell?_of_block (w := wb) (a := ⟨wi.heap.size, 2, none⟩) (hSw.block wi.heap.size hVl)).trans (cell_of_row wb wi.heap.size 2 _ _ _ HV5.out); have q3 := (World.cell?_of_block (w := wb) (a := ⟨wi.heap.size, 3, none⟩) (hSw.block wi.heap.size hVl)).trans (cell_of_row wb wi.heap.size 3 _ _ _ HV5.out); have q4 := (World.cell?_of_block (w := wb) (a := ⟨wi.heap.size, 4, none⟩) (hSw.block wi.heap.size hVl)).trans (cell_of_row wb wi.heap.size 4 _ _ _ HV5.out); have q5 := (World.cell?_of_block (w := wb) (a := ⟨wi.heap.size, 5, none⟩) (hSw.block wi.heap.size hVl)).trans (cell_of_row wb wi.heap.size 5 _ _ _ HV5.out); have q6 := (World.cell?_of_block (w := wb) (a := ⟨wi.heap.size, 6, none⟩) (hSw.block wi.heap.size hVl)).trans (cell_of_row wb wi.heap.size 6 _ _ _ HV5.out); have q7 := (World.cell?_of_block (w := wb) (a := ⟨wi.heap.size, 7, none⟩) (hSw.block wi.heap.size hVl)).trans (cell_of_row wb wi.heap.size 7 _ _ _ HV5.out); have q8 := (World.cell?_of_block (w := wb) (a := ⟨wi.heap.size, 8, none⟩) (hSw.block wi.heap.size hVl)).trans (cell_of_row wb wi.heap.size 8 _ _ _ HV5.out); go_simp <;> with_reducible rfl
      simp only [Act.put, List.setIfInBounds_toArray, List.set_cons_zero, List.set_cons_succ]
      refine callT 2 (some 18) (f := ?_) (args := ?_) rfl rfl (by kernel_rfl) (by rfl) ?_ ?_
      rotate_left 2
      · go_simp <;> first | (constructor <;> with_reducible rfl) | with_reducible rfl
      (with_reducible refine (refRect_any _ _ _ _ _ _ _ _ _ _ _ _).mono ?_)
      rintro _ v1 ⟨rfl, hb1'⟩
      have hb1 : Below wb.heap.size wb v1 := Below.undrew hb1'
      refine ⟨_, rfl, keepAnd ?_ (fun hNew => ?_)⟩
      · intro _; exact hb1
      have hNew := hNew (by decide)
      clear hHeld
      have hHeld := hNew
      clear hNew
      simp only [Act.put, List.setIfInBounds_toArray, List.set_cons_zero, List.set_cons_succ]
      refine callT 3 (some 19) (f := ?_) (args := ?_) rfl rfl (by kernel_rfl) (by rfl) ?_ ?_
      rotate_left 2
      · go_simp <;> first | (constructor <;> with_reducible rfl) | with_reducible rfl
      (with_reducible refine (refAround2_any r1 r2 r3 r4 u3 u4 u5 u6 _).mono ?_)
      rintro _ v2 ⟨rfl, hb2'⟩
      have hb2 : Below wb.heap.size wb v2 := hb1.trans (hb2'.mono hb1.size)
      refine ⟨_, rfl, keepAnd ?_ (fun hNew => ?_)⟩
      · intro _; exact hb2
      have hNew := hNew (by decide)
      clear hHeld
      have hHeld := hNew
      clear hNew
      simp only [Act.put, List.setIfInBounds_toArray, List.set_cons_zero, List.set_cons_succ]
      refine skipRunT 4 none (w' := ((((v2.setCell ⟨T, 0, none⟩ (.int .i64 (min r1 u3))).setCell ⟨T, 1, none⟩ (.int .i64 (max r2 u4))).setCell ⟨T, 2, none⟩ (.int .i64 (min r3 u5))).setCell ⟨T, 3, none⟩ (.int .i64 (max r4 u6)))) rfl rfl (by kernel_rfl) (by rfl) ?_ (fun h => absurd rfl h) ?_
      · have hT6 := (hb2.block T hTlb).trans HT5.out; have q0 := cell_of_row v2 T 0 _ _ _ hT6; have z0 : v2.frozen? ⟨T, 0, none⟩ = false := frozen_of_row v2 T 0 _ _ hT6; have q1 := cell_of_row v2 T 1 _ _ _ hT6; have z1 : v2.frozen? ⟨T, 1, none⟩ = false := frozen_of_row v2 T 1 _ _ hT6; have q2 := cell_of_row v2 T 2 _ _ _ hT6; have z2 : v2.frozen? ⟨T, 2, none⟩ = false := frozen_of_row v2 T 2 _ _ hT6; have q3 := cell_of_row v2 T 3 _ _ _ hT6; have z3 : v2.frozen? ⟨T, 3, none⟩ = false := frozen_of_row v2 T 3 _ _ hT6; go_simp <;> with_reducible rfl
      clear hHeld
      simp only [Act.put]
      refine doneT (by kernel_rfl) ?_ _
      refine NoPanic.normal ?_
      have hT6 := (hb2.block T hTlb).trans HT5.out
      have hT7 := four_set hT6 (.int .i64 (min r1 u3)) (.int .i64 (max r2 u4)) (.int .i64 (min r3 u5)) (.int .i64 (max r4 u6))
      have hC7 := four_chg v2 T (.int .i64 (min r1 u3)) (.int .i64 (max r2 u4)) (.int .i64 (min r3 u5)) (.int .i64 (max r4 u6))
      generalize ((((v2.setCell ⟨T, 0, none⟩ (.int .i64 (min r1 u3))).setCell ⟨T, 1, none⟩ (.int .i64 (max r2 u4))).setCell ⟨T, 2, none⟩ (.int .i64 (min r3 u5))).setCell ⟨T, 3, none⟩ (.int .i64 (max r4 u6))) = Y at *
      have hBv : Below W.heap.size W v2 := HB.out.trans ((HB5.out.trans (hb2.mono (by omega))).mono hsi)
      have hBY : Below W.heap.size W Y := hBv.trans (hC7.below hBv.size (fun b hb => by omega))
      have HT7 := Lib.hid hT7
      have HBY := Lib.hid hBY
      clear hT7 hBY hC7 hT6 hBv
      go_wp2_with fail
      go_roundw
      case rel => exact ⟨i + 1, _, _, _, _, by go_num, by omega, HT7, HBY, HN⟩
      case measure => simp [intOf]; omega
end Go.Proofs.YtacjiocffbgkkaaGreat
