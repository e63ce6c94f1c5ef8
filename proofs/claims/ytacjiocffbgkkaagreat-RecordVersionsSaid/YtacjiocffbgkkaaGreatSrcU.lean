/-
  The reference's reader of records: versions.
-/
import Derived.Test.YtacjiocffbgkkaaGreatSrcT
namespace Go.Proofs.YtacjiocffbgkkaaGreat
open Go.RowKit Go.Lib Go.IntWalk Go.Sort Go.Shelf

/-- within readVersions: the reader's block B, the result's block B + 1, the version's block T, the row read -/
def RdSt (B T : Nat) (w wi W : World) (cs ts : Array Value) (rs : Value) (xs : List Val) : Prop :=
  W.heap[B]? = some (.cells cs 125 (0, 0)) ∧ W.heap[B + 1]? = some (.cells #[.slice none 0 0, .int .i64 0, .int .i64 0, .int .i64 0, .string ⟨#[]⟩, .int .i64 0, .int .i64 0, .string ⟨#[]⟩, .slice none 0 0, .int .i64 0, .int .i64 0, .slice none 0 0] 125 (0, 0)) ∧ W.heap[T]? = some (.cells ts 61 (0, 0)) ∧ Chg (· = B) wi W ∧ Below B w W ∧ wi.heap.size ≤ T ∧ T < W.heap.size ∧ B + 2 ≤ wi.heap.size ∧ RdV W (fun b => T < b ∧ b < W.heap.size) rs xs
theorem RdSt.call {B T : Nat} {w wi W W' : World} {cs ts : Array Value} {rs : Value} {xs : List Val} (h : RdSt B T w wi W cs ts rs xs) (hb : Below W.heap.size W W') : RdSt B T w wi W' cs ts rs xs := by
  obtain ⟨h1, h2, h3, h4, h5, h6, h7, h8, h9⟩ := h
  have hs := hb.size
  exact ⟨(hb.block B (by omega)).trans h1, (hb.block (B + 1) (by omega)).trans h2, (hb.block T h7).trans h3, h4.then_below hb, h5.trans (hb.mono (by omega)), h6, by omega, h8, (Rd.keep h9 (fun b hb' => hb.block b hb'.2)).wide (fun b hb' => ⟨hb'.1, by have := hb'.2; omega⟩)⟩
theorem RdSt.row {B T : Nat} {w wi W W' : World} {cs ts : Array Value} {rs rs' : Value} {xs xs' : List Val} (h : RdSt B T w wi W cs ts rs xs) (hb : Below W.heap.size W W') (hr : RdV W' (fun b => W.heap.size ≤ b ∧ b < W'.heap.size) rs' xs') : RdSt B T w wi W' cs ts rs' xs' := by
  obtain ⟨h1, h2, h3, h4, h5, h6, h7, h8, h9⟩ := h.call hb
  have := h.2.2.2.2.2.2.1
  exact ⟨h1, h2, h3, h4, h5, h6, h7, h8, Rd.wide hr (fun b hb' => ⟨by have := hb'.1; omega, hb'.2⟩)⟩
theorem RdSt.box {B T : Nat} {w wi W : World} {a0 a1 a2 a3 a4 a5 a6 a7 a8 a9 a10 a11 : Value} {ts : Array Value} {rs : Value} {xs : List Val} (h : RdSt B T w wi W #[a0, a1, a2, a3, a4, a5, a6, a7, a8, a9, a10, a11] ts rs xs) (c0 c1 c2 c3 c4 c5 c6 c7 c8 c9 c10 c11 : Value) : RdSt B T w wi ((((((((((((W.setCell ⟨B, 0, none⟩ c0).setCell ⟨B, 1, none⟩ c1).setCell ⟨B, 2, none⟩ c2).setCell ⟨B, 3, none⟩ c3).setCell ⟨B, 4, none⟩ c4).setCell ⟨B, 5, none⟩ c5).setCell ⟨B, 6, none⟩ c6).setCell ⟨B, 7, none⟩ c7).setCell ⟨B, 8, none⟩ c8).setCell ⟨B, 9, none⟩ c9).setCell ⟨B, 10, none⟩ c10).setCell ⟨B, 11, none⟩ c11) #[c0, c1, c2, c3, c4, c5, c6, c7, c8, c9, c10, c11] ts rs xs := by
  obtain ⟨h1, h2, h3, h4, h5, h6, h7, h8, h9⟩ := h
  have g1 := twelve_set h1 c0 c1 c2 c3 c4 c5 c6 c7 c8 c9 c10 c11
  have g2 := twelve_chg W B c0 c1 c2 c3 c4 c5 c6 c7 c8 c9 c10 c11
  have hz := g2.size
  refine ⟨g1, (g2.block (B + 1) (by omega) (by omega)).trans h2, (g2.block T h7 (by omega)).trans h3, h4.trans g2 (fun _ _ h => h), h5.trans (g2.below (by omega) (fun i (hi : i = B) => by omega)), h6, by omega, h8, (Rd.keep h9 (fun b hb' => g2.block b hb'.2 (by have := hb'.1; omega))).wide (fun b hb' => ⟨hb'.1, by have := hb'.2; omega⟩)⟩
theorem RdSt.put {B T : Nat} {w wi W : World} {cs ts : Array Value} {rs : Value} {xs : List Val} (h : RdSt B T w wi W cs ts rs xs) (j : Nat) (v : Value) : RdSt B T w wi (W.setCell ⟨T, j, none⟩ v) cs (ts.setIfInBounds j v) rs xs := by
  obtain ⟨h1, h2, h3, h4, h5, h6, h7, h8, h9⟩ := h
  have g1 : Chg (· = T) W (W.setCell ⟨T, j, none⟩ v) := (Chg.refl (· = T) W).setCell (p := ⟨T, j, none⟩) (.inl rfl) v
  have hz := g1.size
  refine ⟨(g1.block B (by omega) (by omega)).trans h1, (g1.block (B + 1) (by omega) (by omega)).trans h2, heap_setCell_same W T j _ _ v h3, h4.setCell (p := ⟨T, j, none⟩) (.inr h6) v, h5.trans (g1.below (by omega) (fun i (hi : i = T) => by omega)), h6, by omega, h8, (Rd.keep h9 (fun b hb' => g1.block b hb'.2 (by have := hb'.1; omega))).wide (fun b hb' => ⟨hb'.1, by have := hb'.2; omega⟩)⟩

def RvOut (res : List Ver × Int × Int) (bA : Option Addr) (bn bc : Nat) (w0 : World) (e : Ending) (w : World) : Prop :=
  ∃ (n : Int) (g : InR) (u : Value) (Q : List VP), e = .returned (.tuple #[inV bA bn bc res.2 n g, u]) ∧ RdVs w (fun b => w0.heap.size ≤ b ∧ b < w.heap.size) u Q ∧ Q.map (·.2) = res.1 ∧ Below w0.heap.size w0 w
set_option maxRecDepth 1000000 in
set_option maxHeartbeats 16000000 in
theorem readVersions_any (bA : Option Addr) (bc : Nat) (n : Int) (g : InR) (l : List UInt8) (w : World) (hv : RdB w (· < w.heap.size) (.slice bA l.length bc) l) (hl : l.length ≤ 1048576) : Calls Tryz.prog 62 #[inV bA l.length bc (0, 0) n g] w (RvOut (rdVs l (0, 0)) bA l.length bc w) := by
  have HV := Lib.hid hv
  have HLL := Lib.hid hl
  obtain ⟨s, vk, vi, vs, rA, rn, rc, p1, p2, lA, ln, lc⟩ := g
  have hMp := manyF_pos l (0, 0)
  rw [rdVs_many]
  have hk1 : (manyF l (0, 0)).2.2 = 0 → ((0 : Nat) : Int) ≤ (manyF l (0, 0)).2.1 ∧ (manyF l (0, 0)).2.1 ≤ l.length := fun he => by
    unfold manyF at he ⊢
    by_cases hq : (rdI l (0, 0)).1 < 0
    · rw [if_pos hq] at he
      exact absurd he (by simp)
    · rw [if_neg hq] at he ⊢
      rcases hr : rdI l (0, 0) with ⟨m, k, e⟩
      rw [hr] at he
      simp only at he
      subst he
      have g := rdI_mono hr
      obtain ⟨a, r, hl2, _, hm⟩ := decI_got g.2.2
      have : l.length = (a ++ encI m).length + r.length := by rw [hl2]; simp [Nat.add_assoc]
      simp only
      omega
  obtain ⟨V, hV⟩ : ∃ V, V = (w.alloc (.cells #[.slice bA l.length bc, .int .i64 0, .int .i64 0, .int .i64 n, .string s, .int .i64 vk, .int .i64 vi, .string vs, .slice rA rn rc, .int .i64 p1, .int .i64 p2, .slice lA ln lc] 125)).alloc (.cells #[.slice none 0 0, .int .i64 0, .int .i64 0, .int .i64 0, .string ⟨#[]⟩, .int .i64 0, .int .i64 0, .string ⟨#[]⟩, .slice none 0 0, .int .i64 0, .int .i64 0, .slice none 0 0] 125) := ⟨_, rfl⟩
  have hVb : Below w.heap.size w V := by rw [hV]; exact ((Below.of_alloc _).alloc (by first | (simp; done) | (simp; omega)) _)
  have hVs : V.heap.size = w.heap.size + 2 := by rw [hV]; simp
  have hV0 : V.heap[w.heap.size]? = some (.cells #[.slice bA l.length bc, .int .i64 0, .int .i64 0, .int .i64 n, .string s, .int .i64 vk, .int .i64 vi, .string vs, .slice rA rn rc, .int .i64 p1, .int .i64 p2, .slice lA ln lc] 125 (0, 0)) := by
    rw [hV]
    exact ((Below.of_alloc _).block w.heap.size (by simp)).trans (heap_alloc_new _ _)
  have hV1 : V.heap[(w.heap.size + 1)]? = some (.cells #[.slice none 0 0, .int .i64 0, .int .i64 0, .int .i64 0, .string ⟨#[]⟩, .int .i64 0, .int .i64 0, .string ⟨#[]⟩, .slice none 0 0, .int .i64 0, .int .i64 0, .slice none 0 0] 125 (0, 0)) := by
    rw [hV]
    have := heap_alloc_new (w.alloc (.cells #[.slice bA l.length bc, .int .i64 0, .int .i64 0, .int .i64 n, .string s, .int .i64 vk, .int .i64 vi, .string vs, .slice rA rn rc, .int .i64 p1, .int .i64 p2, .slice lA ln lc] 125)) (.cells #[.slice none 0 0, .int .i64 0, .int .i64 0, .int .i64 0, .string ⟨#[]⟩, .int .i64 0, .int .i64 0, .string ⟨#[]⟩, .slice none 0 0, .int .i64 0, .int .i64 0, .slice none 0 0] 125)
    simpa using this
  have HV0 := Lib.hid hV0
  have HV1 := Lib.hid hV1
  have HVB := Lib.hid hVb
  clear hV0 hV1 hVb
  have K := many_any bA l.length bc 0 0 n ⟨s, vk, vi, vs, rA, rn, rc, p1, p2, lA, ln, lc⟩ l V (RdB.below hv HVB.out)
  rcases hm : manyF l (0, 0) with ⟨M, km, em⟩
  rw [hm] at K hMp hk1
  simp only at hMp hk1
  obtain ⟨N, rfl⟩ := Int.eq_ofNat_of_zero_le hMp
  simp only [Int.toNat_natCast]
  obtain ⟨res, hres⟩ : ∃ r, r = getS (rdVer l) N (km, em) := ⟨_, rfl⟩
  rw [← hres]
  have HRES := Lib.hid hres
  have HK1 := Lib.hid hk1
  obtain ⟨i0, hi, hz0, hz1, hz2⟩ := info_parts infoVer
  have HI := Lib.hid hi
  have HZ0 := Lib.hid hz0
  have HZ1 := Lib.hid hz1
  have HZ2 := Lib.hid hz2
  clear hi hz0 hz1 hz2 hres hk1 hm hMp hv hl
  simp only [inV] at K ⊢
  go_enter Tryz.func62, Tryz.ntmps62
  go_wp2_with fail
  rw [← hV]
  clear hV
  (with_reducible refine K.mono ?_)
  rintro _ W2 ⟨⟨sm, vkm, vim, vsm, rAm, rnm, rcm, p1m, p2m, lAm, lnm, lcm⟩, rfl, hb⟩
  simp only
  have HB2 : Hid (Below w.heap.size w W2) := Lib.hid (HVB.out.trans (hb.mono HVB.out.size))
  have hW0 := (hb.block w.heap.size (by omega)).trans HV0.out
  have hW1 := (hb.block (w.heap.size + 1) (by omega)).trans HV1.out
  have HW0 := Lib.hid hW0
  have HW1 := Lib.hid hW1
  have hs2 : w.heap.size + 2 ≤ W2.heap.size := by have := hb.size; omega
  clear hb K hW0 hW1
  have g0 : W2.cell? ⟨w.heap.size, 0, none⟩ = some (.slice bA l.length bc) := cell_of_row W2 _ 0 _ _ _ HW0.out
  have g1 : W2.cell? ⟨w.heap.size, 1, none⟩ = some (.int .i64 0) := cell_of_row W2 _ 1 _ _ _ HW0.out
  have g2 : W2.cell? ⟨w.heap.size, 2, none⟩ = some (.int .i64 0) := cell_of_row W2 _ 2 _ _ _ HW0.out
  have g3 : W2.cell? ⟨w.heap.size, 3, none⟩ = some (.int .i64 n) := cell_of_row W2 _ 3 _ _ _ HW0.out
  have g4 : W2.cell? ⟨w.heap.size, 4, none⟩ = some (.string s) := cell_of_row W2 _ 4 _ _ _ HW0.out
  have g5 : W2.cell? ⟨w.heap.size, 5, none⟩ = some (.int .i64 vk) := cell_of_row W2 _ 5 _ _ _ HW0.out
  have g6 : W2.cell? ⟨w.heap.size, 6, none⟩ = some (.int .i64 vi) := cell_of_row W2 _ 6 _ _ _ HW0.out
  have g7 : W2.cell? ⟨w.heap.size, 7, none⟩ = some (.string vs) := cell_of_row W2 _ 7 _ _ _ HW0.out
  have g8 : W2.cell? ⟨w.heap.size, 8, none⟩ = some (.slice rA rn rc) := cell_of_row W2 _ 8 _ _ _ HW0.out
  have g9 : W2.cell? ⟨w.heap.size, 9, none⟩ = some (.int .i64 p1) := cell_of_row W2 _ 9 _ _ _ HW0.out
  have g10 : W2.cell? ⟨w.heap.size, 10, none⟩ = some (.int .i64 p2) := cell_of_row W2 _ 10 _ _ _ HW0.out
  have g11 : W2.cell? ⟨w.heap.size, 11, none⟩ = some (.slice lA ln lc) := cell_of_row W2 _ 11 _ _ _ HW0.out
  have z0 : W2.frozen? ⟨w.heap.size, 0, none⟩ = false := frozen_of_row W2 _ 0 _ _ HW0.out
  have z1 : W2.frozen? ⟨w.heap.size, 1, none⟩ = false := frozen_of_row W2 _ 1 _ _ HW0.out
  have z2 : W2.frozen? ⟨w.heap.size, 2, none⟩ = false := frozen_of_row W2 _ 2 _ _ HW0.out
  have z3 : W2.frozen? ⟨w.heap.size, 3, none⟩ = false := frozen_of_row W2 _ 3 _ _ HW0.out
  have z4 : W2.frozen? ⟨w.heap.size, 4, none⟩ = false := frozen_of_row W2 _ 4 _ _ HW0.out
  have z5 : W2.frozen? ⟨w.heap.size, 5, none⟩ = false := frozen_of_row W2 _ 5 _ _ HW0.out
  have z6 : W2.frozen? ⟨w.heap.size, 6, none⟩ = false := frozen_of_row W2 _ 6 _ _ HW0.out
  have z7 : W2.frozen? ⟨w.heap.size, 7, none⟩ = false := frozen_of_row W2 _ 7 _ _ HW0.out
  have z8 : W2.frozen? ⟨w.heap.size, 8, none⟩ = false := frozen_of_row W2 _ 8 _ _ HW0.out
  have z9 : W2.frozen? ⟨w.heap.size, 9, none⟩ = false := frozen_of_row W2 _ 9 _ _ HW0.out
  have z10 : W2.frozen? ⟨w.heap.size, 10, none⟩ = false := frozen_of_row W2 _ 10 _ _ HW0.out
  have z11 : W2.frozen? ⟨w.heap.size, 11, none⟩ = false := frozen_of_row W2 _ 11 _ _ HW0.out
  go_upto_region 2 with (fail)
  have hY0 := twelve_set HW0.out (.slice bA l.length bc) (.int .i64 km) (.int .i64 em) (.int .i64 (N : Int)) (.string sm) (.int .i64 vkm) (.int .i64 vim) (.string vsm) (.slice rAm rnm rcm) (.int .i64 p1m) (.int .i64 p2m) (.slice lAm lnm lcm)
  have hcY := twelve_chg W2 w.heap.size (.slice bA l.length bc) (.int .i64 km) (.int .i64 em) (.int .i64 (N : Int)) (.string sm) (.int .i64 vkm) (.int .i64 vim) (.string vsm) (.slice rAm rnm rcm) (.int .i64 p1m) (.int .i64 p2m) (.slice lAm lnm lcm)
  have hY1 := (hcY.block (w.heap.size + 1) (by omega) (by show (w.heap.size + 1) ≠ w.heap.size; omega)).trans HW1.out
  have hYb := (HB2.out).trans (hcY.below (HB2.out).size (fun i (hi : i = w.heap.size) => by omega))
  generalize ((((((((((((W2.setCell ⟨w.heap.size, 0, none⟩ (.slice bA l.length bc)).setCell ⟨w.heap.size, 1, none⟩ (.int .i64 km)).setCell ⟨w.heap.size, 2, none⟩ (.int .i64 em)).setCell ⟨w.heap.size, 3, none⟩ (.int .i64 (N : Int))).setCell ⟨w.heap.size, 4, none⟩ (.string sm)).setCell ⟨w.heap.size, 5, none⟩ (.int .i64 vkm)).setCell ⟨w.heap.size, 6, none⟩ (.int .i64 vim)).setCell ⟨w.heap.size, 7, none⟩ (.string vsm)).setCell ⟨w.heap.size, 8, none⟩ (.slice rAm rnm rcm)).setCell ⟨w.heap.size, 9, none⟩ (.int .i64 p1m)).setCell ⟨w.heap.size, 10, none⟩ (.int .i64 p2m)).setCell ⟨w.heap.size, 11, none⟩ (.slice lAm lnm lcm)) = Y at *
  have HY0 := Lib.hid hY0
  have HY1 := Lib.hid hY1
  have HYB := Lib.hid hYb
  have HCY := Lib.hid hcY
  clear hY0 hY1 hYb hcY
  clear g0 g1 g2 g3 g4 g5 g6 g7 g8 g9 g10 g11 z0 z1 z2 z3 z4 z5 z6 z7 z8 z9 z10 z11
  have HYS : Hid (w.heap.size + 2 ≤ Y.heap.size) := Lib.hid (by have := HCY.out.size; omega)
  have g3 : Y.cell? ⟨w.heap.size, 3, none⟩ = some (.int .i64 (N : Int)) := cell_of_row Y _ 3 _ _ _ HY0.out
  clear hs2 hVs HW0 HW1 HB2 HCY HV0 HV1 HVB
  go_upto_region 5 with (fail)
  clear g3
  go_loopw [5, 6] (fun o i wr => ∃ (i' : Nat) (Q : List VP) (k0 e0 n0 : Int) (g0 : InR), i = .int .i64 (i' : Int) ∧ i' ≤ N ∧ Q.length = i' ∧ Hid (wr.heap[w.heap.size]? = some (.cells #[.slice bA l.length bc, .int .i64 k0, .int .i64 e0, .int .i64 n0, .string g0.s, .int .i64 g0.vk, .int .i64 g0.vi, .string g0.vs, .slice g0.rA g0.rn g0.rc, .int .i64 g0.p1, .int .i64 g0.p2, .slice g0.lA g0.ln g0.lc] 125 (0, 0))) ∧ Hid (wr.heap[w.heap.size + 1]? = some (.cells #[.slice none 0 0, .int .i64 0, .int .i64 0, .int .i64 0, .string ⟨#[]⟩, .int .i64 0, .int .i64 0, .string ⟨#[]⟩, .slice none 0 0, .int .i64 0, .int .i64 0, .slice none 0 0] 125 (0, 0))) ∧ Hid (OwnP wr (w.heap.size + 2) o Q) ∧ Hid (∀ p ∈ Q, VerIs wr (fun b => w.heap.size + 2 ≤ b ∧ b < wr.heap.size ∧ some b ≠ Value.ownBlock o) p.1 p.2) ∧ Hid (Below w.heap.size w wr) ∧ w.heap.size + 2 ≤ wr.heap.size ∧ Hid ((Q.map (·.2) ++ (getS (rdVer l) (N - i') (k0, e0)).1, (getS (rdVer l) (N - i') (k0, e0)).2) = res) ∧ i' ≤ l.length + 1 ∧ (e0 = 0 → (i' : Int) ≤ k0 ∧ k0 ≤ l.length)) (fun _ i _ => N - (intOf i).toNat)
  case atStart => exact ⟨0, [], km, em, (N : Int), ⟨sm, vkm, vim, vsm, rAm, rnm, rcm, p1m, p2m, lAm, lnm, lcm⟩, rfl, Nat.zero_le _, rfl, HY0, HY1, Lib.hid (World.ownsRow_nil _ _ _ _), Lib.hid (fun p hp => by cases hp), HYB, HYS.out, Lib.hid HRES.out.symm, by omega, HK1.out⟩
  case round =>
    obtain ⟨i', Q, k0, e0, n0, ⟨s0, vk0, vi0, vs0, rA0, rn0, rc0, p10, p20, lA0, ln0, lc0⟩, rfl, hi', hQl, HX0, HX1, HO, HR, HB, hsz, HG, hil, hik⟩ := hrel
    obtain ⟨wi, rfl⟩ : ∃ wi : World, wi = wr := ⟨_, rfl⟩
    obtain ⟨Ao, co, rfl, o1, o2, o3⟩ := Rd.open_ (Rd.of_own HO.out)
    rw [hQl] at o1
    have HSZ := Lib.hid hsz
    have HQL := Lib.hid hQl
    have HRd : Hid (RdVs wi (fun b => w.heap.size + 2 ≤ b ∧ b < wi.heap.size) (.slice Ao Q.length co) Q) := Lib.hid ⟨Rd.of_own HO.out, fun p hp => (HR.out p hp).wide fun b hb => ⟨hb.1, hb.2.1⟩⟩
    clear o3 o2
    simp only at HX0
    by_cases hlt : i' < N
    case neg =>
      have hil2 : ¬ (i' : Int) < (N : Int) := by omega
      have HF : Hid (res = (Q.map (·.2), (k0, e0))) := Lib.hid (by rw [← HG.out, getS_stop (.inl (by omega))]; simp)
      have g2 : wi.cell? ⟨w.heap.size, 2, none⟩ = some (.int .i64 e0) := cell_of_row wi _ 2 _ _ _ HX0.out
      clear hsz hQl
      go_upto_region 23 with (fail)
      clear g2
      have g0 : wi.cell? ⟨w.heap.size, 0, none⟩ = some (.slice bA l.length bc) := cell_of_row wi _ 0 _ _ _ HX0.out
      have g1 : wi.cell? ⟨w.heap.size, 1, none⟩ = some (.int .i64 k0) := cell_of_row wi _ 1 _ _ _ HX0.out
      have g2 : wi.cell? ⟨w.heap.size, 2, none⟩ = some (.int .i64 e0) := cell_of_row wi _ 2 _ _ _ HX0.out
      have g3 : wi.cell? ⟨w.heap.size, 3, none⟩ = some (.int .i64 n0) := cell_of_row wi _ 3 _ _ _ HX0.out
      have g4 : wi.cell? ⟨w.heap.size, 4, none⟩ = some (.string s0) := cell_of_row wi _ 4 _ _ _ HX0.out
      have g5 : wi.cell? ⟨w.heap.size, 5, none⟩ = some (.int .i64 vk0) := cell_of_row wi _ 5 _ _ _ HX0.out
      have g6 : wi.cell? ⟨w.heap.size, 6, none⟩ = some (.int .i64 vi0) := cell_of_row wi _ 6 _ _ _ HX0.out
      have g7 : wi.cell? ⟨w.heap.size, 7, none⟩ = some (.string vs0) := cell_of_row wi _ 7 _ _ _ HX0.out
      have g8 : wi.cell? ⟨w.heap.size, 8, none⟩ = some (.slice rA0 rn0 rc0) := cell_of_row wi _ 8 _ _ _ HX0.out
      have g9 : wi.cell? ⟨w.heap.size, 9, none⟩ = some (.int .i64 p10) := cell_of_row wi _ 9 _ _ _ HX0.out
      have g10 : wi.cell? ⟨w.heap.size, 10, none⟩ = some (.int .i64 p20) := cell_of_row wi _ 10 _ _ _ HX0.out
      have g11 : wi.cell? ⟨w.heap.size, 11, none⟩ = some (.slice lA0 ln0 lc0) := cell_of_row wi _ 11 _ _ _ HX0.out
      have q0 : wi.cell? ⟨(w.heap.size + 1), 0, none⟩ = some (.slice none 0 0) := cell_of_row wi _ 0 _ _ _ HX1.out
      have q1 : wi.cell? ⟨(w.heap.size + 1), 1, none⟩ = some (.int .i64 0) := cell_of_row wi _ 1 _ _ _ HX1.out
      have q2 : wi.cell? ⟨(w.heap.size + 1), 2, none⟩ = some (.int .i64 0) := cell_of_row wi _ 2 _ _ _ HX1.out
      have q3 : wi.cell? ⟨(w.heap.size + 1), 3, none⟩ = some (.int .i64 0) := cell_of_row wi _ 3 _ _ _ HX1.out
      have q4 : wi.cell? ⟨(w.heap.size + 1), 4, none⟩ = some (.string ⟨#[]⟩) := cell_of_row wi _ 4 _ _ _ HX1.out
      have q5 : wi.cell? ⟨(w.heap.size + 1), 5, none⟩ = some (.int .i64 0) := cell_of_row wi _ 5 _ _ _ HX1.out
      have q6 : wi.cell? ⟨(w.heap.size + 1), 6, none⟩ = some (.int .i64 0) := cell_of_row wi _ 6 _ _ _ HX1.out
      have q7 : wi.cell? ⟨(w.heap.size + 1), 7, none⟩ = some (.string ⟨#[]⟩) := cell_of_row wi _ 7 _ _ _ HX1.out
      have q8 : wi.cell? ⟨(w.heap.size + 1), 8, none⟩ = some (.slice none 0 0) := cell_of_row wi _ 8 _ _ _ HX1.out
      have q9 : wi.cell? ⟨(w.heap.size + 1), 9, none⟩ = some (.int .i64 0) := cell_of_row wi _ 9 _ _ _ HX1.out
      have q10 : wi.cell? ⟨(w.heap.size + 1), 10, none⟩ = some (.int .i64 0) := cell_of_row wi _ 10 _ _ _ HX1.out
      have q11 : wi.cell? ⟨(w.heap.size + 1), 11, none⟩ = some (.slice none 0 0) := cell_of_row wi _ 11 _ _ _ HX1.out
      have f0 : wi.frozen? ⟨(w.heap.size + 1), 0, none⟩ = false := frozen_of_row wi _ 0 _ _ HX1.out
      have f1 : wi.frozen? ⟨(w.heap.size + 1), 1, none⟩ = false := frozen_of_row wi _ 1 _ _ HX1.out
      have f2 : wi.frozen? ⟨(w.heap.size + 1), 2, none⟩ = false := frozen_of_row wi _ 2 _ _ HX1.out
      have f3 : wi.frozen? ⟨(w.heap.size + 1), 3, none⟩ = false := frozen_of_row wi _ 3 _ _ HX1.out
      have f4 : wi.frozen? ⟨(w.heap.size + 1), 4, none⟩ = false := frozen_of_row wi _ 4 _ _ HX1.out
      have f5 : wi.frozen? ⟨(w.heap.size + 1), 5, none⟩ = false := frozen_of_row wi _ 5 _ _ HX1.out
      have f6 : wi.frozen? ⟨(w.heap.size + 1), 6, none⟩ = false := frozen_of_row wi _ 6 _ _ HX1.out
      have f7 : wi.frozen? ⟨(w.heap.size + 1), 7, none⟩ = false := frozen_of_row wi _ 7 _ _ HX1.out
      have f8 : wi.frozen? ⟨(w.heap.size + 1), 8, none⟩ = false := frozen_of_row wi _ 8 _ _ HX1.out
      have f9 : wi.frozen? ⟨(w.heap.size + 1), 9, none⟩ = false := frozen_of_row wi _ 9 _ _ HX1.out
      have f10 : wi.frozen? ⟨(w.heap.size + 1), 10, none⟩ = false := frozen_of_row wi _ 10 _ _ HX1.out
      have f11 : wi.frozen? ⟨(w.heap.size + 1), 11, none⟩ = false := frozen_of_row wi _ 11 _ _ HX1.out
      have hZ := twelve_set HX1.out (.slice bA l.length bc) (.int .i64 k0) (.int .i64 e0) (.int .i64 n0) (.string s0) (.int .i64 vk0) (.int .i64 vi0) (.string vs0) (.slice rA0 rn0 rc0) (.int .i64 p10) (.int .i64 p20) (.slice lA0 ln0 lc0)
      have hZb := twelve_chg wi (w.heap.size + 1) (.slice bA l.length bc) (.int .i64 k0) (.int .i64 e0) (.int .i64 n0) (.string s0) (.int .i64 vk0) (.int .i64 vi0) (.string vs0) (.slice rA0 rn0 rc0) (.int .i64 p10) (.int .i64 p20) (.slice lA0 ln0 lc0)
      have HZ := Lib.hid hZ
      have HZB := Lib.hid hZb
      clear hZ hZb
      go_wp2_with fail
      generalize ((((((((((((wi.setCell ⟨(w.heap.size + 1), 0, none⟩ (.slice bA l.length bc)).setCell ⟨(w.heap.size + 1), 1, none⟩ (.int .i64 k0)).setCell ⟨(w.heap.size + 1), 2, none⟩ (.int .i64 e0)).setCell ⟨(w.heap.size + 1), 3, none⟩ (.int .i64 n0)).setCell ⟨(w.heap.size + 1), 4, none⟩ (.string s0)).setCell ⟨(w.heap.size + 1), 5, none⟩ (.int .i64 vk0)).setCell ⟨(w.heap.size + 1), 6, none⟩ (.int .i64 vi0)).setCell ⟨(w.heap.size + 1), 7, none⟩ (.string vs0)).setCell ⟨(w.heap.size + 1), 8, none⟩ (.slice rA0 rn0 rc0)).setCell ⟨(w.heap.size + 1), 9, none⟩ (.int .i64 p10)).setCell ⟨(w.heap.size + 1), 10, none⟩ (.int .i64 p20)).setCell ⟨(w.heap.size + 1), 11, none⟩ (.slice lA0 ln0 lc0)) = Z at *
      have y0 : Z.cell? ⟨(w.heap.size + 1), 0, none⟩ = some (.slice bA l.length bc) := cell_of_row Z _ 0 _ _ _ HZ.out
      have y1 : Z.cell? ⟨(w.heap.size + 1), 1, none⟩ = some (.int .i64 k0) := cell_of_row Z _ 1 _ _ _ HZ.out
      have y2 : Z.cell? ⟨(w.heap.size + 1), 2, none⟩ = some (.int .i64 e0) := cell_of_row Z _ 2 _ _ _ HZ.out
      have y3 : Z.cell? ⟨(w.heap.size + 1), 3, none⟩ = some (.int .i64 n0) := cell_of_row Z _ 3 _ _ _ HZ.out
      have y4 : Z.cell? ⟨(w.heap.size + 1), 4, none⟩ = some (.string s0) := cell_of_row Z _ 4 _ _ _ HZ.out
      have y5 : Z.cell? ⟨(w.heap.size + 1), 5, none⟩ = some (.int .i64 vk0) := cell_of_row Z _ 5 _ _ _ HZ.out
      have y6 : Z.cell? ⟨(w.heap.size + 1), 6, none⟩ = some (.int .i64 vi0) := cell_of_row Z _ 6 _ _ _ HZ.out
      have y7 : Z.cell? ⟨(w.heap.size + 1), 7, none⟩ = some (.string vs0) := cell_of_row Z _ 7 _ _ _ HZ.out
      have y8 : Z.cell? ⟨(w.heap.size + 1), 8, none⟩ = some (.slice rA0 rn0 rc0) := cell_of_row Z _ 8 _ _ _ HZ.out
      have y9 : Z.cell? ⟨(w.heap.size + 1), 9, none⟩ = some (.int .i64 p10) := cell_of_row Z _ 9 _ _ _ HZ.out
      have y10 : Z.cell? ⟨(w.heap.size + 1), 10, none⟩ = some (.int .i64 p20) := cell_of_row Z _ 10 _ _ _ HZ.out
      have y11 : Z.cell? ⟨(w.heap.size + 1), 11, none⟩ = some (.slice lA0 ln0 lc0) := cell_of_row Z _ 11 _ _ _ HZ.out
      rw [HF.out]
      exact bodyPost_ret (v := .tuple #[.agg #[.slice bA l.length bc, .int .i64 k0, .int .i64 e0, .int .i64 n0, .string s0, .int .i64 vk0, .int .i64 vi0, .string vs0, .slice rA0 rn0 rc0, .int .i64 p10, .int .i64 p20, .slice lA0 ln0 lc0], .slice Ao Q.length co]) (by simp [results, Tryz.results62, go_sem, y0, y1, y2, y3, y4, y5, y6, y7, y8, y9, y10, y11]) rfl ⟨n0, ⟨s0, vk0, vi0, vs0, rA0, rn0, rc0, p10, p20, lA0, ln0, lc0⟩, .slice Ao Q.length co, Q, rfl, (HRd.out.keep (fun b hb => HZB.out.block b hb.2 (by show b ≠ w.heap.size + 1; have := hb.1; omega))).wide (fun b hb => ⟨by have := hb.1; omega, by have := HZB.out.size; have := hb.2; omega⟩), rfl, HB.out.trans (HZB.out.below HB.out.size (fun i (hi : i = w.heap.size + 1) => by omega))⟩
    case pos =>
      have hil2 : (i' : Int) < (N : Int) := by omega
      by_cases her : e0 = 0
      case neg =>
        have HF : Hid (res = (Q.map (·.2), (k0, e0))) := Lib.hid (by rw [← HG.out, getS_stop (.inr her)]; simp)
        have g2 : wi.cell? ⟨w.heap.size, 2, none⟩ = some (.int .i64 e0) := cell_of_row wi _ 2 _ _ _ HX0.out
        clear hsz hQl
        go_upto_region 23 with (fail)
        clear g2
        have g0 : wi.cell? ⟨w.heap.size, 0, none⟩ = some (.slice bA l.length bc) := cell_of_row wi _ 0 _ _ _ HX0.out
        have g1 : wi.cell? ⟨w.heap.size, 1, none⟩ = some (.int .i64 k0) := cell_of_row wi _ 1 _ _ _ HX0.out
        have g2 : wi.cell? ⟨w.heap.size, 2, none⟩ = some (.int .i64 e0) := cell_of_row wi _ 2 _ _ _ HX0.out
        have g3 : wi.cell? ⟨w.heap.size, 3, none⟩ = some (.int .i64 n0) := cell_of_row wi _ 3 _ _ _ HX0.out
        have g4 : wi.cell? ⟨w.heap.size, 4, none⟩ = some (.string s0) := cell_of_row wi _ 4 _ _ _ HX0.out
        have g5 : wi.cell? ⟨w.heap.size, 5, none⟩ = some (.int .i64 vk0) := cell_of_row wi _ 5 _ _ _ HX0.out
        have g6 : wi.cell? ⟨w.heap.size, 6, none⟩ = some (.int .i64 vi0) := cell_of_row wi _ 6 _ _ _ HX0.out
        have g7 : wi.cell? ⟨w.heap.size, 7, none⟩ = some (.string vs0) := cell_of_row wi _ 7 _ _ _ HX0.out
        have g8 : wi.cell? ⟨w.heap.size, 8, none⟩ = some (.slice rA0 rn0 rc0) := cell_of_row wi _ 8 _ _ _ HX0.out
        have g9 : wi.cell? ⟨w.heap.size, 9, none⟩ = some (.int .i64 p10) := cell_of_row wi _ 9 _ _ _ HX0.out
        have g10 : wi.cell? ⟨w.heap.size, 10, none⟩ = some (.int .i64 p20) := cell_of_row wi _ 10 _ _ _ HX0.out
        have g11 : wi.cell? ⟨w.heap.size, 11, none⟩ = some (.slice lA0 ln0 lc0) := cell_of_row wi _ 11 _ _ _ HX0.out
        have q0 : wi.cell? ⟨(w.heap.size + 1), 0, none⟩ = some (.slice none 0 0) := cell_of_row wi _ 0 _ _ _ HX1.out
        have q1 : wi.cell? ⟨(w.heap.size + 1), 1, none⟩ = some (.int .i64 0) := cell_of_row wi _ 1 _ _ _ HX1.out
        have q2 : wi.cell? ⟨(w.heap.size + 1), 2, none⟩ = some (.int .i64 0) := cell_of_row wi _ 2 _ _ _ HX1.out
        have q3 : wi.cell? ⟨(w.heap.size + 1), 3, none⟩ = some (.int .i64 0) := cell_of_row wi _ 3 _ _ _ HX1.out
        have q4 : wi.cell? ⟨(w.heap.size + 1), 4, none⟩ = some (.string ⟨#[]⟩) := cell_of_row wi _ 4 _ _ _ HX1.out
        have q5 : wi.cell? ⟨(w.heap.size + 1), 5, none⟩ = some (.int .i64 0) := cell_of_row wi _ 5 _ _ _ HX1.out
        have q6 : wi.cell? ⟨(w.heap.size + 1), 6, none⟩ = some (.int .i64 0) := cell_of_row wi _ 6 _ _ _ HX1.out
        have q7 : wi.cell? ⟨(w.heap.size + 1), 7, none⟩ = some (.string ⟨#[]⟩) := cell_of_row wi _ 7 _ _ _ HX1.out
        have q8 : wi.cell? ⟨(w.heap.size + 1), 8, none⟩ = some (.slice none 0 0) := cell_of_row wi _ 8 _ _ _ HX1.out
        have q9 : wi.cell? ⟨(w.heap.size + 1), 9, none⟩ = some (.int .i64 0) := cell_of_row wi _ 9 _ _ _ HX1.out
        have q10 : wi.cell? ⟨(w.heap.size + 1), 10, none⟩ = some (.int .i64 0) := cell_of_row wi _ 10 _ _ _ HX1.out
        have q11 : wi.cell? ⟨(w.heap.size + 1), 11, none⟩ = some (.slice none 0 0) := cell_of_row wi _ 11 _ _ _ HX1.out
        have f0 : wi.frozen? ⟨(w.heap.size + 1), 0, none⟩ = false := frozen_of_row wi _ 0 _ _ HX1.out
        have f1 : wi.frozen? ⟨(w.heap.size + 1), 1, none⟩ = false := frozen_of_row wi _ 1 _ _ HX1.out
        have f2 : wi.frozen? ⟨(w.heap.size + 1), 2, none⟩ = false := frozen_of_row wi _ 2 _ _ HX1.out
        have f3 : wi.frozen? ⟨(w.heap.size + 1), 3, none⟩ = false := frozen_of_row wi _ 3 _ _ HX1.out
        have f4 : wi.frozen? ⟨(w.heap.size + 1), 4, none⟩ = false := frozen_of_row wi _ 4 _ _ HX1.out
        have f5 : wi.frozen? ⟨(w.heap.size + 1), 5, none⟩ = false := frozen_of_row wi _ 5 _ _ HX1.out
        have f6 : wi.frozen? ⟨(w.heap.size + 1), 6, none⟩ = false := frozen_of_row wi _ 6 _ _ HX1.out
        have f7 : wi.frozen? ⟨(w.heap.size + 1), 7, none⟩ = false := frozen_of_row wi _ 7 _ _ HX1.out
        have f8 : wi.frozen? ⟨(w.heap.size + 1), 8, none⟩ = false := frozen_of_row wi _ 8 _ _ HX1.out
        have f9 : wi.frozen? ⟨(w.heap.size + 1), 9, none⟩ = false := frozen_of_row wi _ 9 _ _ HX1.out
        have f10 : wi.frozen? ⟨(w.heap.size + 1), 10, none⟩ = false := frozen_of_row wi _ 10 _ _ HX1.out
        have f11 : wi.frozen? ⟨(w.heap.size + 1), 11, none⟩ = false := frozen_of_row wi _ 11 _ _ HX1.out
        have hZ := twelve_set HX1.out (.slice bA l.length bc) (.int .i64 k0) (.int .i64 e0) (.int .i64 n0) (.string s0) (.int .i64 vk0) (.int .i64 vi0) (.string vs0) (.slice rA0 rn0 rc0) (.int .i64 p10) (.int .i64 p20) (.slice lA0 ln0 lc0)
        have hZb := twelve_chg wi (w.heap.size + 1) (.slice bA l.length bc) (.int .i64 k0) (.int .i64 e0) (.int .i64 n0) (.string s0) (.int .i64 vk0) (.int .i64 vi0) (.string vs0) (.slice rA0 rn0 rc0) (.int .i64 p10) (.int .i64 p20) (.slice lA0 ln0 lc0)
        have HZ := Lib.hid hZ
        have HZB := Lib.hid hZb
        clear hZ hZb
        go_wp2_with fail
        generalize ((((((((((((wi.setCell ⟨(w.heap.size + 1), 0, none⟩ (.slice bA l.length bc)).setCell ⟨(w.heap.size + 1), 1, none⟩ (.int .i64 k0)).setCell ⟨(w.heap.size + 1), 2, none⟩ (.int .i64 e0)).setCell ⟨(w.heap.size + 1), 3, none⟩ (.int .i64 n0)).setCell ⟨(w.heap.size + 1), 4, none⟩ (.string s0)).setCell ⟨(w.heap.size + 1), 5, none⟩ (.int .i64 vk0)).setCell ⟨(w.heap.size + 1), 6, none⟩ (.int .i64 vi0)).setCell ⟨(w.heap.size + 1), 7, none⟩ (.string vs0)).setCell ⟨(w.heap.size + 1), 8, none⟩ (.slice rA0 rn0 rc0)).setCell ⟨(w.heap.size + 1), 9, none⟩ (.int .i64 p10)).setCell ⟨(w.heap.size + 1), 10, none⟩ (.int .i64 p20)).setCell ⟨(w.heap.size + 1), 11, none⟩ (.slice lA0 ln0 lc0)) = Z at *
        have y0 : Z.cell? ⟨(w.heap.size + 1), 0, none⟩ = some (.slice bA l.length bc) := cell_of_row Z _ 0 _ _ _ HZ.out
        have y1 : Z.cell? ⟨(w.heap.size + 1), 1, none⟩ = some (.int .i64 k0) := cell_of_row Z _ 1 _ _ _ HZ.out
        have y2 : Z.cell? ⟨(w.heap.size + 1), 2, none⟩ = some (.int .i64 e0) := cell_of_row Z _ 2 _ _ _ HZ.out
        have y3 : Z.cell? ⟨(w.heap.size + 1), 3, none⟩ = some (.int .i64 n0) := cell_of_row Z _ 3 _ _ _ HZ.out
        have y4 : Z.cell? ⟨(w.heap.size + 1), 4, none⟩ = some (.string s0) := cell_of_row Z _ 4 _ _ _ HZ.out
        have y5 : Z.cell? ⟨(w.heap.size + 1), 5, none⟩ = some (.int .i64 vk0) := cell_of_row Z _ 5 _ _ _ HZ.out
        have y6 : Z.cell? ⟨(w.heap.size + 1), 6, none⟩ = some (.int .i64 vi0) := cell_of_row Z _ 6 _ _ _ HZ.out
        have y7 : Z.cell? ⟨(w.heap.size + 1), 7, none⟩ = some (.string vs0) := cell_of_row Z _ 7 _ _ _ HZ.out
        have y8 : Z.cell? ⟨(w.heap.size + 1), 8, none⟩ = some (.slice rA0 rn0 rc0) := cell_of_row Z _ 8 _ _ _ HZ.out
        have y9 : Z.cell? ⟨(w.heap.size + 1), 9, none⟩ = some (.int .i64 p10) := cell_of_row Z _ 9 _ _ _ HZ.out
        have y10 : Z.cell? ⟨(w.heap.size + 1), 10, none⟩ = some (.int .i64 p20) := cell_of_row Z _ 10 _ _ _ HZ.out
        have y11 : Z.cell? ⟨(w.heap.size + 1), 11, none⟩ = some (.slice lA0 ln0 lc0) := cell_of_row Z _ 11 _ _ _ HZ.out
        rw [HF.out]
        exact bodyPost_ret (v := .tuple #[.agg #[.slice bA l.length bc, .int .i64 k0, .int .i64 e0, .int .i64 n0, .string s0, .int .i64 vk0, .int .i64 vi0, .string vs0, .slice rA0 rn0 rc0, .int .i64 p10, .int .i64 p20, .slice lA0 ln0 lc0], .slice Ao Q.length co]) (by simp [results, Tryz.results62, go_sem, y0, y1, y2, y3, y4, y5, y6, y7, y8, y9, y10, y11]) rfl ⟨n0, ⟨s0, vk0, vi0, vs0, rA0, rn0, rc0, p10, p20, lA0, ln0, lc0⟩, .slice Ao Q.length co, Q, rfl, (HRd.out.keep (fun b hb => HZB.out.block b hb.2 (by show b ≠ w.heap.size + 1; have := hb.1; omega))).wide (fun b hb => ⟨by have := hb.1; omega, by have := HZB.out.size; have := hb.2; omega⟩), rfl, HB.out.trans (HZB.out.below HB.out.size (fun i (hi : i = w.heap.size + 1) => by omega))⟩
      case pos =>
        subst her
        have hik2 := hik rfl
        have g2 : wi.cell? ⟨w.heap.size, 2, none⟩ = some (.int .i64 0) := cell_of_row wi _ 2 _ _ _ HX0.out
        rcases h1 : rdI l (k0, 0) with ⟨n1, k1, e1⟩
        rcases h2 : rdI l (k1, e1) with ⟨n2, k2, e2⟩
        rcases h3 : rdR l (k2, e2) with ⟨xs, k3, e3⟩
        rcases h4 : rdP l (k3, e3) with ⟨⟨f4, t4⟩, k4, e4⟩
        rcases h5 : rdP l (k4, e4) with ⟨⟨f5, t5⟩, k5, e5⟩
        rcases h6 : rdI l (k5, e5) with ⟨n6, k6, e6⟩
        rcases h7 : rdI l (k6, e6) with ⟨n7, k7, e7⟩
        have hx : rdVer l (k0, 0) = (⟨n1, n2, xs, f4, t4, f5, t5, n6, n7⟩, k7, e7) := by unfold rdVer; simp only [h1, h2, h3, h4, h5, h6, h7]
        have hst : e7 = 0 → (i' : Int) + 1 ≤ k7 ∧ k7 ≤ l.length := fun he => by
          subst he
          have := rdVer_mono hx
          omega
        have hgs : getS (rdVer l) (N - i') (k0, 0) = ((⟨n1, n2, xs, f4, t4, f5, t5, n6, n7⟩ : Ver) :: (getS (rdVer l) (N - (i' + 1)) (k7, e7)).1, (getS (rdVer l) (N - (i' + 1)) (k7, e7)).2) := by
          rw [show N - i' = (N - (i' + 1)) + 1 by omega]
          exact getS_step rfl hx
        have hgo : ∀ v ∈ xs, goV v := by
          have e : xs = (rdR l (k2, e2)).1 := by rw [h3]
          rw [e]
          unfold rdR rdS
          split
          · intro x hx; cases hx
          · split <;> exact decR_ok l _
        have HGO := Lib.hid hgo
        have HGS := Lib.hid hgs
        have HST := Lib.hid hst
        have HN := Lib.hid (And.intro hil hik2)
        have HLT := Lib.hid hlt
        have HD1 := Lib.hid h1
        have HD2 := Lib.hid h2
        have HD3 := Lib.hid h3
        have HD4 := Lib.hid h4
        have HD5 := Lib.hid h5
        have HD6 := Lib.hid h6
        have HD7 := Lib.hid h7
        clear hgs hst hx hik hik2 hgo h1 h2 h3 h4 h5 h6 h7 hsz hQl
        go_upto_region 8 with (fail)
        clear g2
        obtain ⟨Y0, hY0⟩ : ∃ Y0, Y0 = (wi.alloc (.cells #[.int .i64 0, .int .i64 0, .slice none 0 0, .int .i64 0, .int .i64 0, .int .i64 0, .int .i64 0, .int .i64 0, .int .i64 0] 61)) := ⟨_, rfl⟩
        have HS0 : Hid (RdSt w.heap.size wi.heap.size w wi Y0 #[.slice bA l.length bc, .int .i64 k0, .int .i64 0, .int .i64 n0, .string s0, .int .i64 vk0, .int .i64 vi0, .string vs0, .slice rA0 rn0 rc0, .int .i64 p10, .int .i64 p20, .slice lA0 ln0 lc0] #[.int .i64 0, .int .i64 0, .slice none 0 0, .int .i64 0, .int .i64 0, .int .i64 0, .int .i64 0, .int .i64 0, .int .i64 0] (.slice none 0 0) []) := Lib.hid (by
          have hh := heap_alloc_new wi (.cells #[.int .i64 0, .int .i64 0, .slice none 0 0, .int .i64 0, .int .i64 0, .int .i64 0, .int .i64 0, .int .i64 0, .int .i64 0] 61)
          have hb0 : Below wi.heap.size wi (wi.alloc (.cells #[.int .i64 0, .int .i64 0, .slice none 0 0, .int .i64 0, .int .i64 0, .int .i64 0, .int .i64 0, .int .i64 0, .int .i64 0] 61)) := Below.of_alloc _
          have h0 : RdSt w.heap.size wi.heap.size w wi (wi.alloc (.cells #[.int .i64 0, .int .i64 0, .slice none 0 0, .int .i64 0, .int .i64 0, .int .i64 0, .int .i64 0, .int .i64 0, .int .i64 0] 61)) #[.slice bA l.length bc, .int .i64 k0, .int .i64 0, .int .i64 n0, .string s0, .int .i64 vk0, .int .i64 vi0, .string vs0, .slice rA0 rn0 rc0, .int .i64 p10, .int .i64 p20, .slice lA0 ln0 lc0] #[.int .i64 0, .int .i64 0, .slice none 0 0, .int .i64 0, .int .i64 0, .int .i64 0, .int .i64 0, .int .i64 0, .int .i64 0] (.slice none 0 0) [] := ⟨(hb0.block _ (by have := HSZ.out; omega)).trans HX0.out, (hb0.block _ (by have := HSZ.out; omega)).trans HX1.out, hh, Chg.of_below hb0 _, HB.out.trans (hb0.mono HB.out.size), Nat.le_refl _, by simp, HSZ.out, Rd.nil _ _ _⟩
          rw [hY0]
          exact h0)
        rw [← hY0]
        clear hY0
        have hs0 := HS0.out
        have g0 : Y0.cell? ⟨w.heap.size, 0, none⟩ = some (.slice bA l.length bc) := cell_of_row Y0 _ 0 _ _ _ hs0.1
        have g1 : Y0.cell? ⟨w.heap.size, 1, none⟩ = some (.int .i64 k0) := cell_of_row Y0 _ 1 _ _ _ hs0.1
        have g2 : Y0.cell? ⟨w.heap.size, 2, none⟩ = some (.int .i64 0) := cell_of_row Y0 _ 2 _ _ _ hs0.1
        have g3 : Y0.cell? ⟨w.heap.size, 3, none⟩ = some (.int .i64 n0) := cell_of_row Y0 _ 3 _ _ _ hs0.1
        have g4 : Y0.cell? ⟨w.heap.size, 4, none⟩ = some (.string s0) := cell_of_row Y0 _ 4 _ _ _ hs0.1
        have g5 : Y0.cell? ⟨w.heap.size, 5, none⟩ = some (.int .i64 vk0) := cell_of_row Y0 _ 5 _ _ _ hs0.1
        have g6 : Y0.cell? ⟨w.heap.size, 6, none⟩ = some (.int .i64 vi0) := cell_of_row Y0 _ 6 _ _ _ hs0.1
        have g7 : Y0.cell? ⟨w.heap.size, 7, none⟩ = some (.string vs0) := cell_of_row Y0 _ 7 _ _ _ hs0.1
        have g8 : Y0.cell? ⟨w.heap.size, 8, none⟩ = some (.slice rA0 rn0 rc0) := cell_of_row Y0 _ 8 _ _ _ hs0.1
        have g9 : Y0.cell? ⟨w.heap.size, 9, none⟩ = some (.int .i64 p10) := cell_of_row Y0 _ 9 _ _ _ hs0.1
        have g10 : Y0.cell? ⟨w.heap.size, 10, none⟩ = some (.int .i64 p20) := cell_of_row Y0 _ 10 _ _ _ hs0.1
        have g11 : Y0.cell? ⟨w.heap.size, 11, none⟩ = some (.slice lA0 ln0 lc0) := cell_of_row Y0 _ 11 _ _ _ hs0.1
        have KN := num_any bA l.length bc k0 0 n0 ⟨s0, vk0, vi0, vs0, rA0, rn0, rc0, p10, p20, lA0, ln0, lc0⟩ l Y0 (RdB.below HV.out hs0.2.2.2.2.1)
        simp only [HD1.out, inV] at KN
        clear hs0
        go_wp2_with fail
        (with_reducible refine KN.mono ?_)
        rintro _ U ⟨⟨s1, vk1, vi1, vs1, rA1, rn1, rc1, p11, p21, lA1, ln1, lc1⟩, rfl, hb⟩
        simp only
        have hu := HS0.out.call hb
        clear hb KN g0 g1 g2 g3 g4 g5 g6 g7 g8 g9 g10 g11
        have g0 : U.cell? ⟨w.heap.size, 0, none⟩ = some (.slice bA l.length bc) := cell_of_row U _ 0 _ _ _ hu.1
        have g1 : U.cell? ⟨w.heap.size, 1, none⟩ = some (.int .i64 k0) := cell_of_row U _ 1 _ _ _ hu.1
        have g2 : U.cell? ⟨w.heap.size, 2, none⟩ = some (.int .i64 0) := cell_of_row U _ 2 _ _ _ hu.1
        have g3 : U.cell? ⟨w.heap.size, 3, none⟩ = some (.int .i64 n0) := cell_of_row U _ 3 _ _ _ hu.1
        have g4 : U.cell? ⟨w.heap.size, 4, none⟩ = some (.string s0) := cell_of_row U _ 4 _ _ _ hu.1
        have g5 : U.cell? ⟨w.heap.size, 5, none⟩ = some (.int .i64 vk0) := cell_of_row U _ 5 _ _ _ hu.1
        have g6 : U.cell? ⟨w.heap.size, 6, none⟩ = some (.int .i64 vi0) := cell_of_row U _ 6 _ _ _ hu.1
        have g7 : U.cell? ⟨w.heap.size, 7, none⟩ = some (.string vs0) := cell_of_row U _ 7 _ _ _ hu.1
        have g8 : U.cell? ⟨w.heap.size, 8, none⟩ = some (.slice rA0 rn0 rc0) := cell_of_row U _ 8 _ _ _ hu.1
        have g9 : U.cell? ⟨w.heap.size, 9, none⟩ = some (.int .i64 p10) := cell_of_row U _ 9 _ _ _ hu.1
        have g10 : U.cell? ⟨w.heap.size, 10, none⟩ = some (.int .i64 p20) := cell_of_row U _ 10 _ _ _ hu.1
        have g11 : U.cell? ⟨w.heap.size, 11, none⟩ = some (.slice lA0 ln0 lc0) := cell_of_row U _ 11 _ _ _ hu.1
        have z0 : U.frozen? ⟨w.heap.size, 0, none⟩ = false := frozen_of_row U _ 0 _ _ hu.1
        have z1 : U.frozen? ⟨w.heap.size, 1, none⟩ = false := frozen_of_row U _ 1 _ _ hu.1
        have z2 : U.frozen? ⟨w.heap.size, 2, none⟩ = false := frozen_of_row U _ 2 _ _ hu.1
        have z3 : U.frozen? ⟨w.heap.size, 3, none⟩ = false := frozen_of_row U _ 3 _ _ hu.1
        have z4 : U.frozen? ⟨w.heap.size, 4, none⟩ = false := frozen_of_row U _ 4 _ _ hu.1
        have z5 : U.frozen? ⟨w.heap.size, 5, none⟩ = false := frozen_of_row U _ 5 _ _ hu.1
        have z6 : U.frozen? ⟨w.heap.size, 6, none⟩ = false := frozen_of_row U _ 6 _ _ hu.1
        have z7 : U.frozen? ⟨w.heap.size, 7, none⟩ = false := frozen_of_row U _ 7 _ _ hu.1
        have z8 : U.frozen? ⟨w.heap.size, 8, none⟩ = false := frozen_of_row U _ 8 _ _ hu.1
        have z9 : U.frozen? ⟨w.heap.size, 9, none⟩ = false := frozen_of_row U _ 9 _ _ hu.1
        have z10 : U.frozen? ⟨w.heap.size, 10, none⟩ = false := frozen_of_row U _ 10 _ _ hu.1
        have z11 : U.frozen? ⟨w.heap.size, 11, none⟩ = false := frozen_of_row U _ 11 _ _ hu.1
        go_upto_region 9 with (fail)
        have hy := hu.box (.slice bA l.length bc) (.int .i64 k1) (.int .i64 e1) (.int .i64 n1) (.string s1) (.int .i64 vk1) (.int .i64 vi1) (.string vs1) (.slice rA1 rn1 rc1) (.int .i64 p11) (.int .i64 p21) (.slice lA1 ln1 lc1)
        clear hu g0 g1 g2 g3 g4 g5 g6 g7 g8 g9 g10 g11 z0 z1 z2 z3 z4 z5 z6 z7 z8 z9 z10 z11
        generalize ((((((((((((U.setCell ⟨w.heap.size, 0, none⟩ (.slice bA l.length bc)).setCell ⟨w.heap.size, 1, none⟩ (.int .i64 k1)).setCell ⟨w.heap.size, 2, none⟩ (.int .i64 e1)).setCell ⟨w.heap.size, 3, none⟩ (.int .i64 n1)).setCell ⟨w.heap.size, 4, none⟩ (.string s1)).setCell ⟨w.heap.size, 5, none⟩ (.int .i64 vk1)).setCell ⟨w.heap.size, 6, none⟩ (.int .i64 vi1)).setCell ⟨w.heap.size, 7, none⟩ (.string vs1)).setCell ⟨w.heap.size, 8, none⟩ (.slice rA1 rn1 rc1)).setCell ⟨w.heap.size, 9, none⟩ (.int .i64 p11)).setCell ⟨w.heap.size, 10, none⟩ (.int .i64 p21)).setCell ⟨w.heap.size, 11, none⟩ (.slice lA1 ln1 lc1)) = X at *
        have g3 : X.cell? ⟨w.heap.size, 3, none⟩ = some (.int .i64 n1) := cell_of_row X _ 3 _ _ _ hy.1
        have z0 : X.frozen? ⟨wi.heap.size, 0, none⟩ = false := frozen_of_row X _ 0 _ _ hy.2.2.1
        have y0 : X.cell? ⟨wi.heap.size, 0, none⟩ = some (.int .i64 0) := cell_of_row X _ 0 _ _ _ hy.2.2.1
        go_upto_region 10 with (fail)
        have hz := (hy.put 0 (.int .i64 n1))
        clear hy g3 z0 y0
        generalize (X.setCell ⟨wi.heap.size, 0, none⟩ (.int .i64 n1)) = Y1 at *
        have HS1 : Hid (RdSt w.heap.size wi.heap.size w wi Y1 #[.slice bA l.length bc, .int .i64 k1, .int .i64 e1, .int .i64 n1, .string s1, .int .i64 vk1, .int .i64 vi1, .string vs1, .slice rA1 rn1 rc1, .int .i64 p11, .int .i64 p21, .slice lA1 ln1 lc1] #[.int .i64 n1, .int .i64 0, .slice none 0 0, .int .i64 0, .int .i64 0, .int .i64 0, .int .i64 0, .int .i64 0, .int .i64 0] (.slice none 0 0) []) := Lib.hid (by simpa using hz)
        clear hz HS0
        have hs1 := HS1.out
        have g0 : Y1.cell? ⟨w.heap.size, 0, none⟩ = some (.slice bA l.length bc) := cell_of_row Y1 _ 0 _ _ _ hs1.1
        have g1 : Y1.cell? ⟨w.heap.size, 1, none⟩ = some (.int .i64 k1) := cell_of_row Y1 _ 1 _ _ _ hs1.1
        have g2 : Y1.cell? ⟨w.heap.size, 2, none⟩ = some (.int .i64 e1) := cell_of_row Y1 _ 2 _ _ _ hs1.1
        have g3 : Y1.cell? ⟨w.heap.size, 3, none⟩ = some (.int .i64 n1) := cell_of_row Y1 _ 3 _ _ _ hs1.1
        have g4 : Y1.cell? ⟨w.heap.size, 4, none⟩ = some (.string s1) := cell_of_row Y1 _ 4 _ _ _ hs1.1
        have g5 : Y1.cell? ⟨w.heap.size, 5, none⟩ = some (.int .i64 vk1) := cell_of_row Y1 _ 5 _ _ _ hs1.1
        have g6 : Y1.cell? ⟨w.heap.size, 6, none⟩ = some (.int .i64 vi1) := cell_of_row Y1 _ 6 _ _ _ hs1.1
        have g7 : Y1.cell? ⟨w.heap.size, 7, none⟩ = some (.string vs1) := cell_of_row Y1 _ 7 _ _ _ hs1.1
        have g8 : Y1.cell? ⟨w.heap.size, 8, none⟩ = some (.slice rA1 rn1 rc1) := cell_of_row Y1 _ 8 _ _ _ hs1.1
        have g9 : Y1.cell? ⟨w.heap.size, 9, none⟩ = some (.int .i64 p11) := cell_of_row Y1 _ 9 _ _ _ hs1.1
        have g10 : Y1.cell? ⟨w.heap.size, 10, none⟩ = some (.int .i64 p21) := cell_of_row Y1 _ 10 _ _ _ hs1.1
        have g11 : Y1.cell? ⟨w.heap.size, 11, none⟩ = some (.slice lA1 ln1 lc1) := cell_of_row Y1 _ 11 _ _ _ hs1.1
        have KN := num_any bA l.length bc k1 e1 n1 ⟨s1, vk1, vi1, vs1, rA1, rn1, rc1, p11, p21, lA1, ln1, lc1⟩ l Y1 (RdB.below HV.out hs1.2.2.2.2.1)
        simp only [HD2.out, inV] at KN
        clear hs1
        go_wp2_with fail
        (with_reducible refine KN.mono ?_)
        rintro _ U ⟨⟨s2, vk2, vi2, vs2, rA2, rn2, rc2, p12, p22, lA2, ln2, lc2⟩, rfl, hb⟩
        simp only
        have hu := HS1.out.call hb
        clear hb KN g0 g1 g2 g3 g4 g5 g6 g7 g8 g9 g10 g11
        have g0 : U.cell? ⟨w.heap.size, 0, none⟩ = some (.slice bA l.length bc) := cell_of_row U _ 0 _ _ _ hu.1
        have g1 : U.cell? ⟨w.heap.size, 1, none⟩ = some (.int .i64 k1) := cell_of_row U _ 1 _ _ _ hu.1
        have g2 : U.cell? ⟨w.heap.size, 2, none⟩ = some (.int .i64 e1) := cell_of_row U _ 2 _ _ _ hu.1
        have g3 : U.cell? ⟨w.heap.size, 3, none⟩ = some (.int .i64 n1) := cell_of_row U _ 3 _ _ _ hu.1
        have g4 : U.cell? ⟨w.heap.size, 4, none⟩ = some (.string s1) := cell_of_row U _ 4 _ _ _ hu.1
        have g5 : U.cell? ⟨w.heap.size, 5, none⟩ = some (.int .i64 vk1) := cell_of_row U _ 5 _ _ _ hu.1
        have g6 : U.cell? ⟨w.heap.size, 6, none⟩ = some (.int .i64 vi1) := cell_of_row U _ 6 _ _ _ hu.1
        have g7 : U.cell? ⟨w.heap.size, 7, none⟩ = some (.string vs1) := cell_of_row U _ 7 _ _ _ hu.1
        have g8 : U.cell? ⟨w.heap.size, 8, none⟩ = some (.slice rA1 rn1 rc1) := cell_of_row U _ 8 _ _ _ hu.1
        have g9 : U.cell? ⟨w.heap.size, 9, none⟩ = some (.int .i64 p11) := cell_of_row U _ 9 _ _ _ hu.1
        have g10 : U.cell? ⟨w.heap.size, 10, none⟩ = some (.int .i64 p21) := cell_of_row U _ 10 _ _ _ hu.1
        have g11 : U.cell? ⟨w.heap.size, 11, none⟩ = some (.slice lA1 ln1 lc1) := cell_of_row U _ 11 _ _ _ hu.1
        have z0 : U.frozen? ⟨w.heap.size, 0, none⟩ = false := frozen_of_row U _ 0 _ _ hu.1
        have z1 : U.frozen? ⟨w.heap.size, 1, none⟩ = false := frozen_of_row U _ 1 _ _ hu.1
        have z2 : U.frozen? ⟨w.heap.size, 2, none⟩ = false := frozen_of_row U _ 2 _ _ hu.1
        have z3 : U.frozen? ⟨w.heap.size, 3, none⟩ = false := frozen_of_row U _ 3 _ _ hu.1
        have z4 : U.frozen? ⟨w.heap.size, 4, none⟩ = false := frozen_of_row U _ 4 _ _ hu.1
        have z5 : U.frozen? ⟨w.heap.size, 5, none⟩ = false := frozen_of_row U _ 5 _ _ hu.1
        have z6 : U.frozen? ⟨w.heap.size, 6, none⟩ = false := frozen_of_row U _ 6 _ _ hu.1
        have z7 : U.frozen? ⟨w.heap.size, 7, none⟩ = false := frozen_of_row U _ 7 _ _ hu.1
        have z8 : U.frozen? ⟨w.heap.size, 8, none⟩ = false := frozen_of_row U _ 8 _ _ hu.1
        have z9 : U.frozen? ⟨w.heap.size, 9, none⟩ = false := frozen_of_row U _ 9 _ _ hu.1
        have z10 : U.frozen? ⟨w.heap.size, 10, none⟩ = false := frozen_of_row U _ 10 _ _ hu.1
        have z11 : U.frozen? ⟨w.heap.size, 11, none⟩ = false := frozen_of_row U _ 11 _ _ hu.1
        go_upto_region 11 with (fail)
        have hy := hu.box (.slice bA l.length bc) (.int .i64 k2) (.int .i64 e2) (.int .i64 n2) (.string s2) (.int .i64 vk2) (.int .i64 vi2) (.string vs2) (.slice rA2 rn2 rc2) (.int .i64 p12) (.int .i64 p22) (.slice lA2 ln2 lc2)
        clear hu g0 g1 g2 g3 g4 g5 g6 g7 g8 g9 g10 g11 z0 z1 z2 z3 z4 z5 z6 z7 z8 z9 z10 z11
        generalize ((((((((((((U.setCell ⟨w.heap.size, 0, none⟩ (.slice bA l.length bc)).setCell ⟨w.heap.size, 1, none⟩ (.int .i64 k2)).setCell ⟨w.heap.size, 2, none⟩ (.int .i64 e2)).setCell ⟨w.heap.size, 3, none⟩ (.int .i64 n2)).setCell ⟨w.heap.size, 4, none⟩ (.string s2)).setCell ⟨w.heap.size, 5, none⟩ (.int .i64 vk2)).setCell ⟨w.heap.size, 6, none⟩ (.int .i64 vi2)).setCell ⟨w.heap.size, 7, none⟩ (.string vs2)).setCell ⟨w.heap.size, 8, none⟩ (.slice rA2 rn2 rc2)).setCell ⟨w.heap.size, 9, none⟩ (.int .i64 p12)).setCell ⟨w.heap.size, 10, none⟩ (.int .i64 p22)).setCell ⟨w.heap.size, 11, none⟩ (.slice lA2 ln2 lc2)) = X at *
        have g3 : X.cell? ⟨w.heap.size, 3, none⟩ = some (.int .i64 n2) := cell_of_row X _ 3 _ _ _ hy.1
        have z1 : X.frozen? ⟨wi.heap.size, 1, none⟩ = false := frozen_of_row X _ 1 _ _ hy.2.2.1
        have y1 : X.cell? ⟨wi.heap.size, 1, none⟩ = some (.int .i64 0) := cell_of_row X _ 1 _ _ _ hy.2.2.1
        go_upto_region 12 with (fail)
        have hz := (hy.put 1 (.int .i64 n2))
        clear hy g3 z1 y1
        generalize (X.setCell ⟨wi.heap.size, 1, none⟩ (.int .i64 n2)) = Y2 at *
        have HS2 : Hid (RdSt w.heap.size wi.heap.size w wi Y2 #[.slice bA l.length bc, .int .i64 k2, .int .i64 e2, .int .i64 n2, .string s2, .int .i64 vk2, .int .i64 vi2, .string vs2, .slice rA2 rn2 rc2, .int .i64 p12, .int .i64 p22, .slice lA2 ln2 lc2] #[.int .i64 n1, .int .i64 n2, .slice none 0 0, .int .i64 0, .int .i64 0, .int .i64 0, .int .i64 0, .int .i64 0, .int .i64 0] (.slice none 0 0) []) := Lib.hid (by simpa using hz)
        clear hz HS1
        have hs2 := HS2.out
        have g0 : Y2.cell? ⟨w.heap.size, 0, none⟩ = some (.slice bA l.length bc) := cell_of_row Y2 _ 0 _ _ _ hs2.1
        have g1 : Y2.cell? ⟨w.heap.size, 1, none⟩ = some (.int .i64 k2) := cell_of_row Y2 _ 1 _ _ _ hs2.1
        have g2 : Y2.cell? ⟨w.heap.size, 2, none⟩ = some (.int .i64 e2) := cell_of_row Y2 _ 2 _ _ _ hs2.1
        have g3 : Y2.cell? ⟨w.heap.size, 3, none⟩ = some (.int .i64 n2) := cell_of_row Y2 _ 3 _ _ _ hs2.1
        have g4 : Y2.cell? ⟨w.heap.size, 4, none⟩ = some (.string s2) := cell_of_row Y2 _ 4 _ _ _ hs2.1
        have g5 : Y2.cell? ⟨w.heap.size, 5, none⟩ = some (.int .i64 vk2) := cell_of_row Y2 _ 5 _ _ _ hs2.1
        have g6 : Y2.cell? ⟨w.heap.size, 6, none⟩ = some (.int .i64 vi2) := cell_of_row Y2 _ 6 _ _ _ hs2.1
        have g7 : Y2.cell? ⟨w.heap.size, 7, none⟩ = some (.string vs2) := cell_of_row Y2 _ 7 _ _ _ hs2.1
        have g8 : Y2.cell? ⟨w.heap.size, 8, none⟩ = some (.slice rA2 rn2 rc2) := cell_of_row Y2 _ 8 _ _ _ hs2.1
        have g9 : Y2.cell? ⟨w.heap.size, 9, none⟩ = some (.int .i64 p12) := cell_of_row Y2 _ 9 _ _ _ hs2.1
        have g10 : Y2.cell? ⟨w.heap.size, 10, none⟩ = some (.int .i64 p22) := cell_of_row Y2 _ 10 _ _ _ hs2.1
        have g11 : Y2.cell? ⟨w.heap.size, 11, none⟩ = some (.slice lA2 ln2 lc2) := cell_of_row Y2 _ 11 _ _ _ hs2.1
        have KN := rrow_any bA l.length bc k2 e2 n2 ⟨s2, vk2, vi2, vs2, rA2, rn2, rc2, p12, p22, lA2, ln2, lc2⟩ l Y2 (RdB.below HV.out hs2.2.2.2.2.1)
        simp only [HD3.out, inV] at KN
        clear hs2
        go_wp2_with fail
        (with_reducible refine KN.mono ?_)
        rintro _ U ⟨n3, ⟨s3, vk3, vi3, vs3, rA3, rn3, rc3, p13, p23, lA3, ln3, lc3⟩, rfl, hr, hb⟩
        simp only at hr ⊢
        have hu := HS2.out.row hb hr
        clear hb KN g0 g1 g2 g3 g4 g5 g6 g7 g8 g9 g10 g11 hr
        have g0 : U.cell? ⟨w.heap.size, 0, none⟩ = some (.slice bA l.length bc) := cell_of_row U _ 0 _ _ _ hu.1
        have g1 : U.cell? ⟨w.heap.size, 1, none⟩ = some (.int .i64 k2) := cell_of_row U _ 1 _ _ _ hu.1
        have g2 : U.cell? ⟨w.heap.size, 2, none⟩ = some (.int .i64 e2) := cell_of_row U _ 2 _ _ _ hu.1
        have g3 : U.cell? ⟨w.heap.size, 3, none⟩ = some (.int .i64 n2) := cell_of_row U _ 3 _ _ _ hu.1
        have g4 : U.cell? ⟨w.heap.size, 4, none⟩ = some (.string s2) := cell_of_row U _ 4 _ _ _ hu.1
        have g5 : U.cell? ⟨w.heap.size, 5, none⟩ = some (.int .i64 vk2) := cell_of_row U _ 5 _ _ _ hu.1
        have g6 : U.cell? ⟨w.heap.size, 6, none⟩ = some (.int .i64 vi2) := cell_of_row U _ 6 _ _ _ hu.1
        have g7 : U.cell? ⟨w.heap.size, 7, none⟩ = some (.string vs2) := cell_of_row U _ 7 _ _ _ hu.1
        have g8 : U.cell? ⟨w.heap.size, 8, none⟩ = some (.slice rA2 rn2 rc2) := cell_of_row U _ 8 _ _ _ hu.1
        have g9 : U.cell? ⟨w.heap.size, 9, none⟩ = some (.int .i64 p12) := cell_of_row U _ 9 _ _ _ hu.1
        have g10 : U.cell? ⟨w.heap.size, 10, none⟩ = some (.int .i64 p22) := cell_of_row U _ 10 _ _ _ hu.1
        have g11 : U.cell? ⟨w.heap.size, 11, none⟩ = some (.slice lA2 ln2 lc2) := cell_of_row U _ 11 _ _ _ hu.1
        have z0 : U.frozen? ⟨w.heap.size, 0, none⟩ = false := frozen_of_row U _ 0 _ _ hu.1
        have z1 : U.frozen? ⟨w.heap.size, 1, none⟩ = false := frozen_of_row U _ 1 _ _ hu.1
        have z2 : U.frozen? ⟨w.heap.size, 2, none⟩ = false := frozen_of_row U _ 2 _ _ hu.1
        have z3 : U.frozen? ⟨w.heap.size, 3, none⟩ = false := frozen_of_row U _ 3 _ _ hu.1
        have z4 : U.frozen? ⟨w.heap.size, 4, none⟩ = false := frozen_of_row U _ 4 _ _ hu.1
        have z5 : U.frozen? ⟨w.heap.size, 5, none⟩ = false := frozen_of_row U _ 5 _ _ hu.1
        have z6 : U.frozen? ⟨w.heap.size, 6, none⟩ = false := frozen_of_row U _ 6 _ _ hu.1
        have z7 : U.frozen? ⟨w.heap.size, 7, none⟩ = false := frozen_of_row U _ 7 _ _ hu.1
        have z8 : U.frozen? ⟨w.heap.size, 8, none⟩ = false := frozen_of_row U _ 8 _ _ hu.1
        have z9 : U.frozen? ⟨w.heap.size, 9, none⟩ = false := frozen_of_row U _ 9 _ _ hu.1
        have z10 : U.frozen? ⟨w.heap.size, 10, none⟩ = false := frozen_of_row U _ 10 _ _ hu.1
        have z11 : U.frozen? ⟨w.heap.size, 11, none⟩ = false := frozen_of_row U _ 11 _ _ hu.1
        go_upto_region 13 with (fail)
        have hy := hu.box (.slice bA l.length bc) (.int .i64 k3) (.int .i64 e3) (.int .i64 n3) (.string s3) (.int .i64 vk3) (.int .i64 vi3) (.string vs3) (.slice rA3 rn3 rc3) (.int .i64 p13) (.int .i64 p23) (.slice lA3 ln3 lc3)
        clear hu g0 g1 g2 g3 g4 g5 g6 g7 g8 g9 g10 g11 z0 z1 z2 z3 z4 z5 z6 z7 z8 z9 z10 z11
        generalize ((((((((((((U.setCell ⟨w.heap.size, 0, none⟩ (.slice bA l.length bc)).setCell ⟨w.heap.size, 1, none⟩ (.int .i64 k3)).setCell ⟨w.heap.size, 2, none⟩ (.int .i64 e3)).setCell ⟨w.heap.size, 3, none⟩ (.int .i64 n3)).setCell ⟨w.heap.size, 4, none⟩ (.string s3)).setCell ⟨w.heap.size, 5, none⟩ (.int .i64 vk3)).setCell ⟨w.heap.size, 6, none⟩ (.int .i64 vi3)).setCell ⟨w.heap.size, 7, none⟩ (.string vs3)).setCell ⟨w.heap.size, 8, none⟩ (.slice rA3 rn3 rc3)).setCell ⟨w.heap.size, 9, none⟩ (.int .i64 p13)).setCell ⟨w.heap.size, 10, none⟩ (.int .i64 p23)).setCell ⟨w.heap.size, 11, none⟩ (.slice lA3 ln3 lc3)) = X at *
        have g8 : X.cell? ⟨w.heap.size, 8, none⟩ = some (.slice rA3 rn3 rc3) := cell_of_row X _ 8 _ _ _ hy.1
        have z2 : X.frozen? ⟨wi.heap.size, 2, none⟩ = false := frozen_of_row X _ 2 _ _ hy.2.2.1
        have y2 : X.cell? ⟨wi.heap.size, 2, none⟩ = some (.slice none 0 0) := cell_of_row X _ 2 _ _ _ hy.2.2.1
        go_upto_region 14 with (fail)
        have hz := (hy.put 2 (.slice rA3 rn3 rc3))
        clear hy g8 z2 y2
        generalize (X.setCell ⟨wi.heap.size, 2, none⟩ (.slice rA3 rn3 rc3)) = Y3 at *
        have HS3 : Hid (RdSt w.heap.size wi.heap.size w wi Y3 #[.slice bA l.length bc, .int .i64 k3, .int .i64 e3, .int .i64 n3, .string s3, .int .i64 vk3, .int .i64 vi3, .string vs3, .slice rA3 rn3 rc3, .int .i64 p13, .int .i64 p23, .slice lA3 ln3 lc3] #[.int .i64 n1, .int .i64 n2, .slice rA3 rn3 rc3, .int .i64 0, .int .i64 0, .int .i64 0, .int .i64 0, .int .i64 0, .int .i64 0] (.slice rA3 rn3 rc3) xs) := Lib.hid (by simpa using hz)
        clear hz HS2
        have hs3 := HS3.out
        have g0 : Y3.cell? ⟨w.heap.size, 0, none⟩ = some (.slice bA l.length bc) := cell_of_row Y3 _ 0 _ _ _ hs3.1
        have g1 : Y3.cell? ⟨w.heap.size, 1, none⟩ = some (.int .i64 k3) := cell_of_row Y3 _ 1 _ _ _ hs3.1
        have g2 : Y3.cell? ⟨w.heap.size, 2, none⟩ = some (.int .i64 e3) := cell_of_row Y3 _ 2 _ _ _ hs3.1
        have g3 : Y3.cell? ⟨w.heap.size, 3, none⟩ = some (.int .i64 n3) := cell_of_row Y3 _ 3 _ _ _ hs3.1
        have g4 : Y3.cell? ⟨w.heap.size, 4, none⟩ = some (.string s3) := cell_of_row Y3 _ 4 _ _ _ hs3.1
        have g5 : Y3.cell? ⟨w.heap.size, 5, none⟩ = some (.int .i64 vk3) := cell_of_row Y3 _ 5 _ _ _ hs3.1
        have g6 : Y3.cell? ⟨w.heap.size, 6, none⟩ = some (.int .i64 vi3) := cell_of_row Y3 _ 6 _ _ _ hs3.1
        have g7 : Y3.cell? ⟨w.heap.size, 7, none⟩ = some (.string vs3) := cell_of_row Y3 _ 7 _ _ _ hs3.1
        have g8 : Y3.cell? ⟨w.heap.size, 8, none⟩ = some (.slice rA3 rn3 rc3) := cell_of_row Y3 _ 8 _ _ _ hs3.1
        have g9 : Y3.cell? ⟨w.heap.size, 9, none⟩ = some (.int .i64 p13) := cell_of_row Y3 _ 9 _ _ _ hs3.1
        have g10 : Y3.cell? ⟨w.heap.size, 10, none⟩ = some (.int .i64 p23) := cell_of_row Y3 _ 10 _ _ _ hs3.1
        have g11 : Y3.cell? ⟨w.heap.size, 11, none⟩ = some (.slice lA3 ln3 lc3) := cell_of_row Y3 _ 11 _ _ _ hs3.1
        have KN := rper_any bA l.length bc k3 e3 n3 ⟨s3, vk3, vi3, vs3, rA3, rn3, rc3, p13, p23, lA3, ln3, lc3⟩ l Y3 (RdB.below HV.out hs3.2.2.2.2.1)
        simp only [HD4.out, inV] at KN
        clear hs3
        go_wp2_with fail
        (with_reducible refine KN.mono ?_)
        rintro _ U ⟨n4, ⟨s4, vk4, vi4, vs4, rA4, rn4, rc4, p14, p24, lA4, ln4, lc4⟩, rfl, hp, hb⟩
        simp only [Prod.mk.injEq] at hp ⊢
        rw [hp.1, hp.2]
        have hu := HS3.out.call hb
        clear hb KN g0 g1 g2 g3 g4 g5 g6 g7 g8 g9 g10 g11 hp
        have g0 : U.cell? ⟨w.heap.size, 0, none⟩ = some (.slice bA l.length bc) := cell_of_row U _ 0 _ _ _ hu.1
        have g1 : U.cell? ⟨w.heap.size, 1, none⟩ = some (.int .i64 k3) := cell_of_row U _ 1 _ _ _ hu.1
        have g2 : U.cell? ⟨w.heap.size, 2, none⟩ = some (.int .i64 e3) := cell_of_row U _ 2 _ _ _ hu.1
        have g3 : U.cell? ⟨w.heap.size, 3, none⟩ = some (.int .i64 n3) := cell_of_row U _ 3 _ _ _ hu.1
        have g4 : U.cell? ⟨w.heap.size, 4, none⟩ = some (.string s3) := cell_of_row U _ 4 _ _ _ hu.1
        have g5 : U.cell? ⟨w.heap.size, 5, none⟩ = some (.int .i64 vk3) := cell_of_row U _ 5 _ _ _ hu.1
        have g6 : U.cell? ⟨w.heap.size, 6, none⟩ = some (.int .i64 vi3) := cell_of_row U _ 6 _ _ _ hu.1
        have g7 : U.cell? ⟨w.heap.size, 7, none⟩ = some (.string vs3) := cell_of_row U _ 7 _ _ _ hu.1
        have g8 : U.cell? ⟨w.heap.size, 8, none⟩ = some (.slice rA3 rn3 rc3) := cell_of_row U _ 8 _ _ _ hu.1
        have g9 : U.cell? ⟨w.heap.size, 9, none⟩ = some (.int .i64 p13) := cell_of_row U _ 9 _ _ _ hu.1
        have g10 : U.cell? ⟨w.heap.size, 10, none⟩ = some (.int .i64 p23) := cell_of_row U _ 10 _ _ _ hu.1
        have g11 : U.cell? ⟨w.heap.size, 11, none⟩ = some (.slice lA3 ln3 lc3) := cell_of_row U _ 11 _ _ _ hu.1
        have z0 : U.frozen? ⟨w.heap.size, 0, none⟩ = false := frozen_of_row U _ 0 _ _ hu.1
        have z1 : U.frozen? ⟨w.heap.size, 1, none⟩ = false := frozen_of_row U _ 1 _ _ hu.1
        have z2 : U.frozen? ⟨w.heap.size, 2, none⟩ = false := frozen_of_row U _ 2 _ _ hu.1
        have z3 : U.frozen? ⟨w.heap.size, 3, none⟩ = false := frozen_of_row U _ 3 _ _ hu.1
        have z4 : U.frozen? ⟨w.heap.size, 4, none⟩ = false := frozen_of_row U _ 4 _ _ hu.1
        have z5 : U.frozen? ⟨w.heap.size, 5, none⟩ = false := frozen_of_row U _ 5 _ _ hu.1
        have z6 : U.frozen? ⟨w.heap.size, 6, none⟩ = false := frozen_of_row U _ 6 _ _ hu.1
        have z7 : U.frozen? ⟨w.heap.size, 7, none⟩ = false := frozen_of_row U _ 7 _ _ hu.1
        have z8 : U.frozen? ⟨w.heap.size, 8, none⟩ = false := frozen_of_row U _ 8 _ _ hu.1
        have z9 : U.frozen? ⟨w.heap.size, 9, none⟩ = false := frozen_of_row U _ 9 _ _ hu.1
        have z10 : U.frozen? ⟨w.heap.size, 10, none⟩ = false := frozen_of_row U _ 10 _ _ hu.1
        have z11 : U.frozen? ⟨w.heap.size, 11, none⟩ = false := frozen_of_row U _ 11 _ _ hu.1
        go_upto_region 15 with (fail)
        have hy := hu.box (.slice bA l.length bc) (.int .i64 k4) (.int .i64 e4) (.int .i64 n4) (.string s4) (.int .i64 vk4) (.int .i64 vi4) (.string vs4) (.slice rA4 rn4 rc4) (.int .i64 f4) (.int .i64 t4) (.slice lA4 ln4 lc4)
        clear hu g0 g1 g2 g3 g4 g5 g6 g7 g8 g9 g10 g11 z0 z1 z2 z3 z4 z5 z6 z7 z8 z9 z10 z11
        generalize ((((((((((((U.setCell ⟨w.heap.size, 0, none⟩ (.slice bA l.length bc)).setCell ⟨w.heap.size, 1, none⟩ (.int .i64 k4)).setCell ⟨w.heap.size, 2, none⟩ (.int .i64 e4)).setCell ⟨w.heap.size, 3, none⟩ (.int .i64 n4)).setCell ⟨w.heap.size, 4, none⟩ (.string s4)).setCell ⟨w.heap.size, 5, none⟩ (.int .i64 vk4)).setCell ⟨w.heap.size, 6, none⟩ (.int .i64 vi4)).setCell ⟨w.heap.size, 7, none⟩ (.string vs4)).setCell ⟨w.heap.size, 8, none⟩ (.slice rA4 rn4 rc4)).setCell ⟨w.heap.size, 9, none⟩ (.int .i64 f4)).setCell ⟨w.heap.size, 10, none⟩ (.int .i64 t4)).setCell ⟨w.heap.size, 11, none⟩ (.slice lA4 ln4 lc4)) = X at *
        have g9 : X.cell? ⟨w.heap.size, 9, none⟩ = some (.int .i64 f4) := cell_of_row X _ 9 _ _ _ hy.1
        have g10 : X.cell? ⟨w.heap.size, 10, none⟩ = some (.int .i64 t4) := cell_of_row X _ 10 _ _ _ hy.1
        have z3 : X.frozen? ⟨wi.heap.size, 3, none⟩ = false := frozen_of_row X _ 3 _ _ hy.2.2.1
        have y3 : X.cell? ⟨wi.heap.size, 3, none⟩ = some (.int .i64 0) := cell_of_row X _ 3 _ _ _ hy.2.2.1
        have z4 : X.frozen? ⟨wi.heap.size, 4, none⟩ = false := frozen_of_row X _ 4 _ _ hy.2.2.1
        have y4 : X.cell? ⟨wi.heap.size, 4, none⟩ = some (.int .i64 0) := cell_of_row X _ 4 _ _ _ hy.2.2.1
        go_upto_region 16 with (fail)
        have hz := ((hy.put 3 (.int .i64 f4)).put 4 (.int .i64 t4))
        clear hy g9 g10 z3 y3 z4 y4
        generalize ((X.setCell ⟨wi.heap.size, 3, none⟩ (.int .i64 f4)).setCell ⟨wi.heap.size, 4, none⟩ (.int .i64 t4)) = Y4 at *
        have HS4 : Hid (RdSt w.heap.size wi.heap.size w wi Y4 #[.slice bA l.length bc, .int .i64 k4, .int .i64 e4, .int .i64 n4, .string s4, .int .i64 vk4, .int .i64 vi4, .string vs4, .slice rA4 rn4 rc4, .int .i64 f4, .int .i64 t4, .slice lA4 ln4 lc4] #[.int .i64 n1, .int .i64 n2, .slice rA3 rn3 rc3, .int .i64 f4, .int .i64 t4, .int .i64 0, .int .i64 0, .int .i64 0, .int .i64 0] (.slice rA3 rn3 rc3) xs) := Lib.hid (by simpa using hz)
        clear hz HS3
        have hs4 := HS4.out
        have g0 : Y4.cell? ⟨w.heap.size, 0, none⟩ = some (.slice bA l.length bc) := cell_of_row Y4 _ 0 _ _ _ hs4.1
        have g1 : Y4.cell? ⟨w.heap.size, 1, none⟩ = some (.int .i64 k4) := cell_of_row Y4 _ 1 _ _ _ hs4.1
        have g2 : Y4.cell? ⟨w.heap.size, 2, none⟩ = some (.int .i64 e4) := cell_of_row Y4 _ 2 _ _ _ hs4.1
        have g3 : Y4.cell? ⟨w.heap.size, 3, none⟩ = some (.int .i64 n4) := cell_of_row Y4 _ 3 _ _ _ hs4.1
        have g4 : Y4.cell? ⟨w.heap.size, 4, none⟩ = some (.string s4) := cell_of_row Y4 _ 4 _ _ _ hs4.1
        have g5 : Y4.cell? ⟨w.heap.size, 5, none⟩ = some (.int .i64 vk4) := cell_of_row Y4 _ 5 _ _ _ hs4.1
        have g6 : Y4.cell? ⟨w.heap.size, 6, none⟩ = some (.int .i64 vi4) := cell_of_row Y4 _ 6 _ _ _ hs4.1
        have g7 : Y4.cell? ⟨w.heap.size, 7, none⟩ = some (.string vs4) := cell_of_row Y4 _ 7 _ _ _ hs4.1
        have g8 : Y4.cell? ⟨w.heap.size, 8, none⟩ = some (.slice rA4 rn4 rc4) := cell_of_row Y4 _ 8 _ _ _ hs4.1
        have g9 : Y4.cell? ⟨w.heap.size, 9, none⟩ = some (.int .i64 f4) := cell_of_row Y4 _ 9 _ _ _ hs4.1
        have g10 : Y4.cell? ⟨w.heap.size, 10, none⟩ = some (.int .i64 t4) := cell_of_row Y4 _ 10 _ _ _ hs4.1
        have g11 : Y4.cell? ⟨w.heap.size, 11, none⟩ = some (.slice lA4 ln4 lc4) := cell_of_row Y4 _ 11 _ _ _ hs4.1
        have KN := rper_any bA l.length bc k4 e4 n4 ⟨s4, vk4, vi4, vs4, rA4, rn4, rc4, f4, t4, lA4, ln4, lc4⟩ l Y4 (RdB.below HV.out hs4.2.2.2.2.1)
        simp only [HD5.out, inV] at KN
        clear hs4
        go_wp2_with fail
        (with_reducible refine KN.mono ?_)
        rintro _ U ⟨n5, ⟨s5, vk5, vi5, vs5, rA5, rn5, rc5, p15, p25, lA5, ln5, lc5⟩, rfl, hp, hb⟩
        simp only [Prod.mk.injEq] at hp ⊢
        rw [hp.1, hp.2]
        have hu := HS4.out.call hb
        clear hb KN g0 g1 g2 g3 g4 g5 g6 g7 g8 g9 g10 g11 hp
        have g0 : U.cell? ⟨w.heap.size, 0, none⟩ = some (.slice bA l.length bc) := cell_of_row U _ 0 _ _ _ hu.1
        have g1 : U.cell? ⟨w.heap.size, 1, none⟩ = some (.int .i64 k4) := cell_of_row U _ 1 _ _ _ hu.1
        have g2 : U.cell? ⟨w.heap.size, 2, none⟩ = some (.int .i64 e4) := cell_of_row U _ 2 _ _ _ hu.1
        have g3 : U.cell? ⟨w.heap.size, 3, none⟩ = some (.int .i64 n4) := cell_of_row U _ 3 _ _ _ hu.1
        have g4 : U.cell? ⟨w.heap.size, 4, none⟩ = some (.string s4) := cell_of_row U _ 4 _ _ _ hu.1
        have g5 : U.cell? ⟨w.heap.size, 5, none⟩ = some (.int .i64 vk4) := cell_of_row U _ 5 _ _ _ hu.1
        have g6 : U.cell? ⟨w.heap.size, 6, none⟩ = some (.int .i64 vi4) := cell_of_row U _ 6 _ _ _ hu.1
        have g7 : U.cell? ⟨w.heap.size, 7, none⟩ = some (.string vs4) := cell_of_row U _ 7 _ _ _ hu.1
        have g8 : U.cell? ⟨w.heap.size, 8, none⟩ = some (.slice rA4 rn4 rc4) := cell_of_row U _ 8 _ _ _ hu.1
        have g9 : U.cell? ⟨w.heap.size, 9, none⟩ = some (.int .i64 f4) := cell_of_row U _ 9 _ _ _ hu.1
        have g10 : U.cell? ⟨w.heap.size, 10, none⟩ = some (.int .i64 t4) := cell_of_row U _ 10 _ _ _ hu.1
        have g11 : U.cell? ⟨w.heap.size, 11, none⟩ = some (.slice lA4 ln4 lc4) := cell_of_row U _ 11 _ _ _ hu.1
        have z0 : U.frozen? ⟨w.heap.size, 0, none⟩ = false := frozen_of_row U _ 0 _ _ hu.1
        have z1 : U.frozen? ⟨w.heap.size, 1, none⟩ = false := frozen_of_row U _ 1 _ _ hu.1
        have z2 : U.frozen? ⟨w.heap.size, 2, none⟩ = false := frozen_of_row U _ 2 _ _ hu.1
        have z3 : U.frozen? ⟨w.heap.size, 3, none⟩ = false := frozen_of_row U _ 3 _ _ hu.1
        have z4 : U.frozen? ⟨w.heap.size, 4, none⟩ = false := frozen_of_row U _ 4 _ _ hu.1
        have z5 : U.frozen? ⟨w.heap.size, 5, none⟩ = false := frozen_of_row U _ 5 _ _ hu.1
        have z6 : U.frozen? ⟨w.heap.size, 6, none⟩ = false := frozen_of_row U _ 6 _ _ hu.1
        have z7 : U.frozen? ⟨w.heap.size, 7, none⟩ = false := frozen_of_row U _ 7 _ _ hu.1
        have z8 : U.frozen? ⟨w.heap.size, 8, none⟩ = false := frozen_of_row U _ 8 _ _ hu.1
        have z9 : U.frozen? ⟨w.heap.size, 9, none⟩ = false := frozen_of_row U _ 9 _ _ hu.1
        have z10 : U.frozen? ⟨w.heap.size, 10, none⟩ = false := frozen_of_row U _ 10 _ _ hu.1
        have z11 : U.frozen? ⟨w.heap.size, 11, none⟩ = false := frozen_of_row U _ 11 _ _ hu.1
        go_upto_region 17 with (fail)
        have hy := hu.box (.slice bA l.length bc) (.int .i64 k5) (.int .i64 e5) (.int .i64 n5) (.string s5) (.int .i64 vk5) (.int .i64 vi5) (.string vs5) (.slice rA5 rn5 rc5) (.int .i64 f5) (.int .i64 t5) (.slice lA5 ln5 lc5)
        clear hu g0 g1 g2 g3 g4 g5 g6 g7 g8 g9 g10 g11 z0 z1 z2 z3 z4 z5 z6 z7 z8 z9 z10 z11
        generalize ((((((((((((U.setCell ⟨w.heap.size, 0, none⟩ (.slice bA l.length bc)).setCell ⟨w.heap.size, 1, none⟩ (.int .i64 k5)).setCell ⟨w.heap.size, 2, none⟩ (.int .i64 e5)).setCell ⟨w.heap.size, 3, none⟩ (.int .i64 n5)).setCell ⟨w.heap.size, 4, none⟩ (.string s5)).setCell ⟨w.heap.size, 5, none⟩ (.int .i64 vk5)).setCell ⟨w.heap.size, 6, none⟩ (.int .i64 vi5)).setCell ⟨w.heap.size, 7, none⟩ (.string vs5)).setCell ⟨w.heap.size, 8, none⟩ (.slice rA5 rn5 rc5)).setCell ⟨w.heap.size, 9, none⟩ (.int .i64 f5)).setCell ⟨w.heap.size, 10, none⟩ (.int .i64 t5)).setCell ⟨w.heap.size, 11, none⟩ (.slice lA5 ln5 lc5)) = X at *
        have g9 : X.cell? ⟨w.heap.size, 9, none⟩ = some (.int .i64 f5) := cell_of_row X _ 9 _ _ _ hy.1
        have g10 : X.cell? ⟨w.heap.size, 10, none⟩ = some (.int .i64 t5) := cell_of_row X _ 10 _ _ _ hy.1
        have z5 : X.frozen? ⟨wi.heap.size, 5, none⟩ = false := frozen_of_row X _ 5 _ _ hy.2.2.1
        have y5 : X.cell? ⟨wi.heap.size, 5, none⟩ = some (.int .i64 0) := cell_of_row X _ 5 _ _ _ hy.2.2.1
        have z6 : X.frozen? ⟨wi.heap.size, 6, none⟩ = false := frozen_of_row X _ 6 _ _ hy.2.2.1
        have y6 : X.cell? ⟨wi.heap.size, 6, none⟩ = some (.int .i64 0) := cell_of_row X _ 6 _ _ _ hy.2.2.1
        go_upto_region 18 with (fail)
        have hz := ((hy.put 5 (.int .i64 f5)).put 6 (.int .i64 t5))
        clear hy g9 g10 z5 y5 z6 y6
        generalize ((X.setCell ⟨wi.heap.size, 5, none⟩ (.int .i64 f5)).setCell ⟨wi.heap.size, 6, none⟩ (.int .i64 t5)) = Y5 at *
        have HS5 : Hid (RdSt w.heap.size wi.heap.size w wi Y5 #[.slice bA l.length bc, .int .i64 k5, .int .i64 e5, .int .i64 n5, .string s5, .int .i64 vk5, .int .i64 vi5, .string vs5, .slice rA5 rn5 rc5, .int .i64 f5, .int .i64 t5, .slice lA5 ln5 lc5] #[.int .i64 n1, .int .i64 n2, .slice rA3 rn3 rc3, .int .i64 f4, .int .i64 t4, .int .i64 f5, .int .i64 t5, .int .i64 0, .int .i64 0] (.slice rA3 rn3 rc3) xs) := Lib.hid (by simpa using hz)
        clear hz HS4
        have hs5 := HS5.out
        have g0 : Y5.cell? ⟨w.heap.size, 0, none⟩ = some (.slice bA l.length bc) := cell_of_row Y5 _ 0 _ _ _ hs5.1
        have g1 : Y5.cell? ⟨w.heap.size, 1, none⟩ = some (.int .i64 k5) := cell_of_row Y5 _ 1 _ _ _ hs5.1
        have g2 : Y5.cell? ⟨w.heap.size, 2, none⟩ = some (.int .i64 e5) := cell_of_row Y5 _ 2 _ _ _ hs5.1
        have g3 : Y5.cell? ⟨w.heap.size, 3, none⟩ = some (.int .i64 n5) := cell_of_row Y5 _ 3 _ _ _ hs5.1
        have g4 : Y5.cell? ⟨w.heap.size, 4, none⟩ = some (.string s5) := cell_of_row Y5 _ 4 _ _ _ hs5.1
        have g5 : Y5.cell? ⟨w.heap.size, 5, none⟩ = some (.int .i64 vk5) := cell_of_row Y5 _ 5 _ _ _ hs5.1
        have g6 : Y5.cell? ⟨w.heap.size, 6, none⟩ = some (.int .i64 vi5) := cell_of_row Y5 _ 6 _ _ _ hs5.1
        have g7 : Y5.cell? ⟨w.heap.size, 7, none⟩ = some (.string vs5) := cell_of_row Y5 _ 7 _ _ _ hs5.1
        have g8 : Y5.cell? ⟨w.heap.size, 8, none⟩ = some (.slice rA5 rn5 rc5) := cell_of_row Y5 _ 8 _ _ _ hs5.1
        have g9 : Y5.cell? ⟨w.heap.size, 9, none⟩ = some (.int .i64 f5) := cell_of_row Y5 _ 9 _ _ _ hs5.1
        have g10 : Y5.cell? ⟨w.heap.size, 10, none⟩ = some (.int .i64 t5) := cell_of_row Y5 _ 10 _ _ _ hs5.1
        have g11 : Y5.cell? ⟨w.heap.size, 11, none⟩ = some (.slice lA5 ln5 lc5) := cell_of_row Y5 _ 11 _ _ _ hs5.1
        have KN := num_any bA l.length bc k5 e5 n5 ⟨s5, vk5, vi5, vs5, rA5, rn5, rc5, f5, t5, lA5, ln5, lc5⟩ l Y5 (RdB.below HV.out hs5.2.2.2.2.1)
        simp only [HD6.out, inV] at KN
        clear hs5
        go_wp2_with fail
        (with_reducible refine KN.mono ?_)
        rintro _ U ⟨⟨s6, vk6, vi6, vs6, rA6, rn6, rc6, p16, p26, lA6, ln6, lc6⟩, rfl, hb⟩
        simp only
        have hu := HS5.out.call hb
        clear hb KN g0 g1 g2 g3 g4 g5 g6 g7 g8 g9 g10 g11
        have g0 : U.cell? ⟨w.heap.size, 0, none⟩ = some (.slice bA l.length bc) := cell_of_row U _ 0 _ _ _ hu.1
        have g1 : U.cell? ⟨w.heap.size, 1, none⟩ = some (.int .i64 k5) := cell_of_row U _ 1 _ _ _ hu.1
        have g2 : U.cell? ⟨w.heap.size, 2, none⟩ = some (.int .i64 e5) := cell_of_row U _ 2 _ _ _ hu.1
        have g3 : U.cell? ⟨w.heap.size, 3, none⟩ = some (.int .i64 n5) := cell_of_row U _ 3 _ _ _ hu.1
        have g4 : U.cell? ⟨w.heap.size, 4, none⟩ = some (.string s5) := cell_of_row U _ 4 _ _ _ hu.1
        have g5 : U.cell? ⟨w.heap.size, 5, none⟩ = some (.int .i64 vk5) := cell_of_row U _ 5 _ _ _ hu.1
        have g6 : U.cell? ⟨w.heap.size, 6, none⟩ = some (.int .i64 vi5) := cell_of_row U _ 6 _ _ _ hu.1
        have g7 : U.cell? ⟨w.heap.size, 7, none⟩ = some (.string vs5) := cell_of_row U _ 7 _ _ _ hu.1
        have g8 : U.cell? ⟨w.heap.size, 8, none⟩ = some (.slice rA5 rn5 rc5) := cell_of_row U _ 8 _ _ _ hu.1
        have g9 : U.cell? ⟨w.heap.size, 9, none⟩ = some (.int .i64 f5) := cell_of_row U _ 9 _ _ _ hu.1
        have g10 : U.cell? ⟨w.heap.size, 10, none⟩ = some (.int .i64 t5) := cell_of_row U _ 10 _ _ _ hu.1
        have g11 : U.cell? ⟨w.heap.size, 11, none⟩ = some (.slice lA5 ln5 lc5) := cell_of_row U _ 11 _ _ _ hu.1
        have z0 : U.frozen? ⟨w.heap.size, 0, none⟩ = false := frozen_of_row U _ 0 _ _ hu.1
        have z1 : U.frozen? ⟨w.heap.size, 1, none⟩ = false := frozen_of_row U _ 1 _ _ hu.1
        have z2 : U.frozen? ⟨w.heap.size, 2, none⟩ = false := frozen_of_row U _ 2 _ _ hu.1
        have z3 : U.frozen? ⟨w.heap.size, 3, none⟩ = false := frozen_of_row U _ 3 _ _ hu.1
        have z4 : U.frozen? ⟨w.heap.size, 4, none⟩ = false := frozen_of_row U _ 4 _ _ hu.1
        have z5 : U.frozen? ⟨w.heap.size, 5, none⟩ = false := frozen_of_row U _ 5 _ _ hu.1
        have z6 : U.frozen? ⟨w.heap.size, 6, none⟩ = false := frozen_of_row U _ 6 _ _ hu.1
        have z7 : U.frozen? ⟨w.heap.size, 7, none⟩ = false := frozen_of_row U _ 7 _ _ hu.1
        have z8 : U.frozen? ⟨w.heap.size, 8, none⟩ = false := frozen_of_row U _ 8 _ _ hu.1
        have z9 : U.frozen? ⟨w.heap.size, 9, none⟩ = false := frozen_of_row U _ 9 _ _ hu.1
        have z10 : U.frozen? ⟨w.heap.size, 10, none⟩ = false := frozen_of_row U _ 10 _ _ hu.1
        have z11 : U.frozen? ⟨w.heap.size, 11, none⟩ = false := frozen_of_row U _ 11 _ _ hu.1
        go_upto_region 19 with (fail)
        have hy := hu.box (.slice bA l.length bc) (.int .i64 k6) (.int .i64 e6) (.int .i64 n6) (.string s6) (.int .i64 vk6) (.int .i64 vi6) (.string vs6) (.slice rA6 rn6 rc6) (.int .i64 p16) (.int .i64 p26) (.slice lA6 ln6 lc6)
        clear hu g0 g1 g2 g3 g4 g5 g6 g7 g8 g9 g10 g11 z0 z1 z2 z3 z4 z5 z6 z7 z8 z9 z10 z11
        generalize ((((((((((((U.setCell ⟨w.heap.size, 0, none⟩ (.slice bA l.length bc)).setCell ⟨w.heap.size, 1, none⟩ (.int .i64 k6)).setCell ⟨w.heap.size, 2, none⟩ (.int .i64 e6)).setCell ⟨w.heap.size, 3, none⟩ (.int .i64 n6)).setCell ⟨w.heap.size, 4, none⟩ (.string s6)).setCell ⟨w.heap.size, 5, none⟩ (.int .i64 vk6)).setCell ⟨w.heap.size, 6, none⟩ (.int .i64 vi6)).setCell ⟨w.heap.size, 7, none⟩ (.string vs6)).setCell ⟨w.heap.size, 8, none⟩ (.slice rA6 rn6 rc6)).setCell ⟨w.heap.size, 9, none⟩ (.int .i64 p16)).setCell ⟨w.heap.size, 10, none⟩ (.int .i64 p26)).setCell ⟨w.heap.size, 11, none⟩ (.slice lA6 ln6 lc6)) = X at *
        have g3 : X.cell? ⟨w.heap.size, 3, none⟩ = some (.int .i64 n6) := cell_of_row X _ 3 _ _ _ hy.1
        have z7 : X.frozen? ⟨wi.heap.size, 7, none⟩ = false := frozen_of_row X _ 7 _ _ hy.2.2.1
        have y7 : X.cell? ⟨wi.heap.size, 7, none⟩ = some (.int .i64 0) := cell_of_row X _ 7 _ _ _ hy.2.2.1
        go_upto_region 20 with (fail)
        have hz := (hy.put 7 (.int .i64 n6))
        clear hy g3 z7 y7
        generalize (X.setCell ⟨wi.heap.size, 7, none⟩ (.int .i64 n6)) = Y6 at *
        have HS6 : Hid (RdSt w.heap.size wi.heap.size w wi Y6 #[.slice bA l.length bc, .int .i64 k6, .int .i64 e6, .int .i64 n6, .string s6, .int .i64 vk6, .int .i64 vi6, .string vs6, .slice rA6 rn6 rc6, .int .i64 p16, .int .i64 p26, .slice lA6 ln6 lc6] #[.int .i64 n1, .int .i64 n2, .slice rA3 rn3 rc3, .int .i64 f4, .int .i64 t4, .int .i64 f5, .int .i64 t5, .int .i64 n6, .int .i64 0] (.slice rA3 rn3 rc3) xs) := Lib.hid (by simpa using hz)
        clear hz HS5
        have hs6 := HS6.out
        have g0 : Y6.cell? ⟨w.heap.size, 0, none⟩ = some (.slice bA l.length bc) := cell_of_row Y6 _ 0 _ _ _ hs6.1
        have g1 : Y6.cell? ⟨w.heap.size, 1, none⟩ = some (.int .i64 k6) := cell_of_row Y6 _ 1 _ _ _ hs6.1
        have g2 : Y6.cell? ⟨w.heap.size, 2, none⟩ = some (.int .i64 e6) := cell_of_row Y6 _ 2 _ _ _ hs6.1
        have g3 : Y6.cell? ⟨w.heap.size, 3, none⟩ = some (.int .i64 n6) := cell_of_row Y6 _ 3 _ _ _ hs6.1
        have g4 : Y6.cell? ⟨w.heap.size, 4, none⟩ = some (.string s6) := cell_of_row Y6 _ 4 _ _ _ hs6.1
        have g5 : Y6.cell? ⟨w.heap.size, 5, none⟩ = some (.int .i64 vk6) := cell_of_row Y6 _ 5 _ _ _ hs6.1
        have g6 : Y6.cell? ⟨w.heap.size, 6, none⟩ = some (.int .i64 vi6) := cell_of_row Y6 _ 6 _ _ _ hs6.1
        have g7 : Y6.cell? ⟨w.heap.size, 7, none⟩ = some (.string vs6) := cell_of_row Y6 _ 7 _ _ _ hs6.1
        have g8 : Y6.cell? ⟨w.heap.size, 8, none⟩ = some (.slice rA6 rn6 rc6) := cell_of_row Y6 _ 8 _ _ _ hs6.1
        have g9 : Y6.cell? ⟨w.heap.size, 9, none⟩ = some (.int .i64 p16) := cell_of_row Y6 _ 9 _ _ _ hs6.1
        have g10 : Y6.cell? ⟨w.heap.size, 10, none⟩ = some (.int .i64 p26) := cell_of_row Y6 _ 10 _ _ _ hs6.1
        have g11 : Y6.cell? ⟨w.heap.size, 11, none⟩ = some (.slice lA6 ln6 lc6) := cell_of_row Y6 _ 11 _ _ _ hs6.1
        have KN := num_any bA l.length bc k6 e6 n6 ⟨s6, vk6, vi6, vs6, rA6, rn6, rc6, p16, p26, lA6, ln6, lc6⟩ l Y6 (RdB.below HV.out hs6.2.2.2.2.1)
        simp only [HD7.out, inV] at KN
        clear hs6
        go_wp2_with fail
        (with_reducible refine KN.mono ?_)
        rintro _ U ⟨⟨s7, vk7, vi7, vs7, rA7, rn7, rc7, p17, p27, lA7, ln7, lc7⟩, rfl, hb⟩
        simp only
        have hu := HS6.out.call hb
        clear hb KN g0 g1 g2 g3 g4 g5 g6 g7 g8 g9 g10 g11
        have g0 : U.cell? ⟨w.heap.size, 0, none⟩ = some (.slice bA l.length bc) := cell_of_row U _ 0 _ _ _ hu.1
        have g1 : U.cell? ⟨w.heap.size, 1, none⟩ = some (.int .i64 k6) := cell_of_row U _ 1 _ _ _ hu.1
        have g2 : U.cell? ⟨w.heap.size, 2, none⟩ = some (.int .i64 e6) := cell_of_row U _ 2 _ _ _ hu.1
        have g3 : U.cell? ⟨w.heap.size, 3, none⟩ = some (.int .i64 n6) := cell_of_row U _ 3 _ _ _ hu.1
        have g4 : U.cell? ⟨w.heap.size, 4, none⟩ = some (.string s6) := cell_of_row U _ 4 _ _ _ hu.1
        have g5 : U.cell? ⟨w.heap.size, 5, none⟩ = some (.int .i64 vk6) := cell_of_row U _ 5 _ _ _ hu.1
        have g6 : U.cell? ⟨w.heap.size, 6, none⟩ = some (.int .i64 vi6) := cell_of_row U _ 6 _ _ _ hu.1
        have g7 : U.cell? ⟨w.heap.size, 7, none⟩ = some (.string vs6) := cell_of_row U _ 7 _ _ _ hu.1
        have g8 : U.cell? ⟨w.heap.size, 8, none⟩ = some (.slice rA6 rn6 rc6) := cell_of_row U _ 8 _ _ _ hu.1
        have g9 : U.cell? ⟨w.heap.size, 9, none⟩ = some (.int .i64 p16) := cell_of_row U _ 9 _ _ _ hu.1
        have g10 : U.cell? ⟨w.heap.size, 10, none⟩ = some (.int .i64 p26) := cell_of_row U _ 10 _ _ _ hu.1
        have g11 : U.cell? ⟨w.heap.size, 11, none⟩ = some (.slice lA6 ln6 lc6) := cell_of_row U _ 11 _ _ _ hu.1
        have z0 : U.frozen? ⟨w.heap.size, 0, none⟩ = false := frozen_of_row U _ 0 _ _ hu.1
        have z1 : U.frozen? ⟨w.heap.size, 1, none⟩ = false := frozen_of_row U _ 1 _ _ hu.1
        have z2 : U.frozen? ⟨w.heap.size, 2, none⟩ = false := frozen_of_row U _ 2 _ _ hu.1
        have z3 : U.frozen? ⟨w.heap.size, 3, none⟩ = false := frozen_of_row U _ 3 _ _ hu.1
        have z4 : U.frozen? ⟨w.heap.size, 4, none⟩ = false := frozen_of_row U _ 4 _ _ hu.1
        have z5 : U.frozen? ⟨w.heap.size, 5, none⟩ = false := frozen_of_row U _ 5 _ _ hu.1
        have z6 : U.frozen? ⟨w.heap.size, 6, none⟩ = false := frozen_of_row U _ 6 _ _ hu.1
        have z7 : U.frozen? ⟨w.heap.size, 7, none⟩ = false := frozen_of_row U _ 7 _ _ hu.1
        have z8 : U.frozen? ⟨w.heap.size, 8, none⟩ = false := frozen_of_row U _ 8 _ _ hu.1
        have z9 : U.frozen? ⟨w.heap.size, 9, none⟩ = false := frozen_of_row U _ 9 _ _ hu.1
        have z10 : U.frozen? ⟨w.heap.size, 10, none⟩ = false := frozen_of_row U _ 10 _ _ hu.1
        have z11 : U.frozen? ⟨w.heap.size, 11, none⟩ = false := frozen_of_row U _ 11 _ _ hu.1
        go_upto_region 21 with (fail)
        have hy := hu.box (.slice bA l.length bc) (.int .i64 k7) (.int .i64 e7) (.int .i64 n7) (.string s7) (.int .i64 vk7) (.int .i64 vi7) (.string vs7) (.slice rA7 rn7 rc7) (.int .i64 p17) (.int .i64 p27) (.slice lA7 ln7 lc7)
        clear hu g0 g1 g2 g3 g4 g5 g6 g7 g8 g9 g10 g11 z0 z1 z2 z3 z4 z5 z6 z7 z8 z9 z10 z11
        generalize ((((((((((((U.setCell ⟨w.heap.size, 0, none⟩ (.slice bA l.length bc)).setCell ⟨w.heap.size, 1, none⟩ (.int .i64 k7)).setCell ⟨w.heap.size, 2, none⟩ (.int .i64 e7)).setCell ⟨w.heap.size, 3, none⟩ (.int .i64 n7)).setCell ⟨w.heap.size, 4, none⟩ (.string s7)).setCell ⟨w.heap.size, 5, none⟩ (.int .i64 vk7)).setCell ⟨w.heap.size, 6, none⟩ (.int .i64 vi7)).setCell ⟨w.heap.size, 7, none⟩ (.string vs7)).setCell ⟨w.heap.size, 8, none⟩ (.slice rA7 rn7 rc7)).setCell ⟨w.heap.size, 9, none⟩ (.int .i64 p17)).setCell ⟨w.heap.size, 10, none⟩ (.int .i64 p27)).setCell ⟨w.heap.size, 11, none⟩ (.slice lA7 ln7 lc7)) = X at *
        have g3 : X.cell? ⟨w.heap.size, 3, none⟩ = some (.int .i64 n7) := cell_of_row X _ 3 _ _ _ hy.1
        have z8 : X.frozen? ⟨wi.heap.size, 8, none⟩ = false := frozen_of_row X _ 8 _ _ hy.2.2.1
        have y8 : X.cell? ⟨wi.heap.size, 8, none⟩ = some (.int .i64 0) := cell_of_row X _ 8 _ _ _ hy.2.2.1
        go_upto_region 22 with (fail)
        have hz := (hy.put 8 (.int .i64 n7))
        clear hy g3 z8 y8
        generalize (X.setCell ⟨wi.heap.size, 8, none⟩ (.int .i64 n7)) = Y7 at *
        have HS7 : Hid (RdSt w.heap.size wi.heap.size w wi Y7 #[.slice bA l.length bc, .int .i64 k7, .int .i64 e7, .int .i64 n7, .string s7, .int .i64 vk7, .int .i64 vi7, .string vs7, .slice rA7 rn7 rc7, .int .i64 p17, .int .i64 p27, .slice lA7 ln7 lc7] #[.int .i64 n1, .int .i64 n2, .slice rA3 rn3 rc3, .int .i64 f4, .int .i64 t4, .int .i64 f5, .int .i64 t5, .int .i64 n6, .int .i64 n7] (.slice rA3 rn3 rc3) xs) := Lib.hid (by simpa using hz)
        clear hz HS6
        have hs7 := HS7.out
        have y0 : Y7.cell? ⟨wi.heap.size, 0, none⟩ = some (.int .i64 n1) := cell_of_row Y7 _ 0 _ _ _ hs7.2.2.1
        have y1 : Y7.cell? ⟨wi.heap.size, 1, none⟩ = some (.int .i64 n2) := cell_of_row Y7 _ 1 _ _ _ hs7.2.2.1
        have y2 : Y7.cell? ⟨wi.heap.size, 2, none⟩ = some (.slice rA3 rn3 rc3) := cell_of_row Y7 _ 2 _ _ _ hs7.2.2.1
        have y3 : Y7.cell? ⟨wi.heap.size, 3, none⟩ = some (.int .i64 f4) := cell_of_row Y7 _ 3 _ _ _ hs7.2.2.1
        have y4 : Y7.cell? ⟨wi.heap.size, 4, none⟩ = some (.int .i64 t4) := cell_of_row Y7 _ 4 _ _ _ hs7.2.2.1
        have y5 : Y7.cell? ⟨wi.heap.size, 5, none⟩ = some (.int .i64 f5) := cell_of_row Y7 _ 5 _ _ _ hs7.2.2.1
        have y6 : Y7.cell? ⟨wi.heap.size, 6, none⟩ = some (.int .i64 t5) := cell_of_row Y7 _ 6 _ _ _ hs7.2.2.1
        have y7 : Y7.cell? ⟨wi.heap.size, 7, none⟩ = some (.int .i64 n6) := cell_of_row Y7 _ 7 _ _ _ hs7.2.2.1
        have y8 : Y7.cell? ⟨wi.heap.size, 8, none⟩ = some (.int .i64 n7) := cell_of_row Y7 _ 8 _ _ _ hs7.2.2.1
        have hX : VerIs Y7 (fun b => wi.heap.size < b ∧ b < Y7.heap.size) (⟨n1, n2, rA3, rn3, rc3, f4, t4, f5, t5, n6, n7⟩ : RV) ⟨n1, n2, xs, f4, t4, f5, t5, n6, n7⟩ := ⟨rfl, rfl, rfl, rfl, rfl, rfl, rfl, rfl, hs7.2.2.2.2.2.2.2.2, HGO.out⟩
        have HX := Lib.hid hX
        have HSB : Hid (w.heap.size + 2 ≤ wi.heap.size ∧ wi.heap.size < Y7.heap.size) := Lib.hid ⟨HSZ.out, hs7.2.2.2.2.2.2.1⟩
        have hsb := HSB.out
        have hownlt : ∀ b, some b = (Value.slice Ao Q.length co).ownBlock → w.heap.size + 2 ≤ b ∧ b < wi.heap.size := fun b hb => by
          obtain ⟨g1, cur, g2⟩ := own_block HO.out hb
          exact ⟨g1, (Array.getElem?_eq_some_iff.1 g2).1⟩
        have HOL := Lib.hid hownlt
        have HOA : Hid (OwnP (Y7.alloc (.cells #[.int .i64 n1, .int .i64 n2, .slice rA3 rn3 rc3, .int .i64 f4, .int .i64 t4, .int .i64 f5, .int .i64 t5, .int .i64 n6, .int .i64 n7] 61)) (w.heap.size + 2) (.slice Ao Q.length co) Q) := Lib.hid (by
          have hc := HS7.out.2.2.2.1
          have h1 : OwnP Y7 (w.heap.size + 2) (.slice Ao Q.length co) Q := World.ownsRow.kept (row := some w.heap.size) HO.out ⟨hc.os, hc.tape, hc.output, hc.size, fun b hb hne => hc.block b hb (fun e => hne (by rw [e]))⟩ (.inr (fun e => by have := (HOL.out w.heap.size e.symm).1; omega))
          exact World.ownsRow.alloc h1 _)
        have HNEW : Hid (Rd (Y7.alloc (.cells #[.int .i64 n1, .int .i64 n2, .slice rA3 rn3 rc3, .int .i64 f4, .int .i64 t4, .int .i64 f5, .int .i64 t5, .int .i64 n6, .int .i64 n7] 61)) (· = Y7.heap.size) 9 (.slice (some ⟨Y7.heap.size, 0, none⟩) 1 1) 1 [.int .i64 n1, .int .i64 n2, .slice rA3 rn3 rc3, .int .i64 f4, .int .i64 t4, .int .i64 f5, .int .i64 t5, .int .i64 n6, .int .i64 n7]) := Lib.hid (Rd.new' Y7 Y7.heap.size rfl [.int .i64 n1, .int .i64 n2, .slice rA3 rn3 rc3, .int .i64 f4, .int .i64 t4, .int .i64 f5, .int .i64 t5, .int .i64 n6, .int .i64 n7] 61 9 1 rfl (by decide))
        have hi5 : Q.length ≤ 1048577 := by have := HN.out.1; have := HQL.out; have := HLL.out; omega
        have hib : i' + 1 ≤ 9223372036854775807 := by have := HQL.out; omega
        have hib2 : (i' : Int) + 1 ≤ 9223372036854775807 := by omega
        clear hs7 hX hownlt
        go_wp2_with (at_builtin; refine wpList_append_app (Y7.alloc (.cells #[.int .i64 n1, .int .i64 n2, .slice rA3 rn3 rc3, .int .i64 f4, .int .i64 t4, .int .i64 f5, .int .i64 t5, .int .i64 n6, .int .i64 n7] 61)) rfl (.tmp 58) (.tmp 60) 22 rfl (w.heap.size + 2) 61 i0 _ 9 88 Tryz.underlying22 HI.out HZ0.out HZ1.out HZ2.out rfl (by omega) (.slice Ao Q.length co) Q.length (cellsP Q) rfl (.inl HOA.out) (· = Y7.heap.size) _ 1 [.int .i64 n1, .int .i64 n2, .slice rA3 rn3 rc3, .int .i64 f4, .int .i64 t4, .int .i64 f5, .int .i64 t5, .int .i64 n6, .int .i64 n7] rfl HNEW.out ((⟨n1, n2, rA3, rn3, rc3, f4, t4, f5, t5, n6, n7⟩ : RV).enc_one) (by unfold maxLen; omega) (by omega) (by simp; omega) ?_; intro v3 w3 _ hO3 hg3 hb3 hv3)
        all_goals skip
        have hO3' : OwnP w3 (w.heap.size + 2) v3 (Q ++ [(((⟨n1, n2, rA3, rn3, rc3, f4, t4, f5, t5, n6, n7⟩ : RV), (⟨n1, n2, xs, f4, t4, f5, t5, n6, n7⟩ : Ver)) : VP)]) := by
          have h := hO3 (.inl (by omega))
          unfold OwnP
          rw [List.length_append, cellsP_append]
          exact h
        have hs3 : Y7.heap.size + 1 ≤ w3.heap.size := by have := hg3.size; simpa using this
        have hbk : ∀ b, b < Y7.heap.size → some b ≠ (Value.slice Ao Q.length co).ownBlock → w3.heap[b]? = Y7.heap[b]? := fun b hb hne => (hg3.block b (by simp; omega) hne).trans ((Below.of_alloc (w := Y7) (.cells #[.int .i64 n1, .int .i64 n2, .slice rA3 rn3 rc3, .int .i64 f4, .int .i64 t4, .int .i64 f5, .int .i64 t5, .int .i64 n6, .int .i64 n7] 61)).block b hb)
        have hs7 := HS7.out
        have hR3 : ∀ p ∈ Q ++ [(((⟨n1, n2, rA3, rn3, rc3, f4, t4, f5, t5, n6, n7⟩ : RV), (⟨n1, n2, xs, f4, t4, f5, t5, n6, n7⟩ : Ver)) : VP)], VerIs w3 (fun b => w.heap.size + 2 ≤ b ∧ b < w3.heap.size ∧ some b ≠ Value.ownBlock v3) p.1 p.2 := fun p hp => by
          rcases List.mem_append.1 hp with hp | hp
          · refine ((HR.out p hp).keep (w' := w3) (fun b hb => ?_)).wide (fun b hb => ?_)
            · exact (hbk b (by omega) hb.2.2).trans (hs7.2.2.2.1.block b hb.2.1 (by omega))
            · refine ⟨hb.1, by omega, ?_⟩
              rcases hv3 with hv3 | hv3
              · rw [hv3]; exact hb.2.2
              · rw [hv3]; simp; omega
          · rw [List.mem_singleton] at hp
            subst hp
            refine ((HX.out).keep (w' := w3) (fun b hb => ?_)).wide (fun b hb => ?_)
            · exact hbk b hb.2 (fun e => by have := (HOL.out b e).2; omega)
            · refine ⟨by omega, by omega, ?_⟩
              rcases hv3 with hv3 | hv3
              · rw [hv3]; exact fun e => by have := (HOL.out b e).2; omega
              · rw [hv3]; simp; omega
        have HZ3 : Hid (w3.heap[w.heap.size]? = some (.cells #[.slice bA l.length bc, .int .i64 k7, .int .i64 e7, .int .i64 n7, .string s7, .int .i64 vk7, .int .i64 vi7, .string vs7, .slice rA7 rn7 rc7, .int .i64 p17, .int .i64 p27, .slice lA7 ln7 lc7] 125 (0, 0))) := Lib.hid ((hbk w.heap.size (by omega) (fun e => by have := (HOL.out _ e).1; omega)).trans hs7.1)
        have HZ4 : Hid (w3.heap[w.heap.size + 1]? = some (.cells #[.slice none 0 0, .int .i64 0, .int .i64 0, .int .i64 0, .string ⟨#[]⟩, .int .i64 0, .int .i64 0, .string ⟨#[]⟩, .slice none 0 0, .int .i64 0, .int .i64 0, .slice none 0 0] 125 (0, 0))) := Lib.hid ((hbk (w.heap.size + 1) (by omega) (fun e => by have := (HOL.out _ e).1; omega)).trans hs7.2.1)
        have HB4 : Hid (Below w.heap.size w w3) := Lib.hid ((hs7.2.2.2.2.1.alloc hs7.2.2.2.2.1.size _).trans (hb3.mono (by omega)))
        have HO4 := Lib.hid hO3'
        have HR4 := Lib.hid hR3
        have HS3 : Hid (w.heap.size + 2 ≤ w3.heap.size) := Lib.hid (by omega)
        clear hO3 hO3' hg3 hb3 hv3 hbk hR3 hs7
        go_wp2_with fail
        go_roundw
        case rel =>
          refine ⟨i' + 1, Q ++ [(((⟨n1, n2, rA3, rn3, rc3, f4, t4, f5, t5, n6, n7⟩ : RV), (⟨n1, n2, xs, f4, t4, f5, t5, n6, n7⟩ : Ver)) : VP)], k7, e7, n7, ⟨s7, vk7, vi7, vs7, rA7, rn7, rc7, p17, p27, lA7, ln7, lc7⟩, by go_num, by have := HLT.out; omega, by simp [HQL.out], HZ3, HZ4, HO4, HR4, HB4, HS3.out, Lib.hid ?_, ?_, ?_⟩
          · rw [← HG.out, HGS.out]; simp
          · have := HN.out; omega
          · intro he; have := HST.out he; omega
        case measure => have := HLT.out; simp [intOf]; omega
end Go.Proofs.YtacjiocffbgkkaaGreat
