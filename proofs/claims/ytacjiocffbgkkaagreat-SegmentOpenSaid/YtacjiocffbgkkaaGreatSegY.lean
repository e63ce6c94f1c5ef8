/-
  The reference's Open.
-/
import Derived.Test.YtacjiocffbgkkaaGreatSegX
import Derived.Test.YtacjiocffbgkkaaGreatSegV
import Derived.Test.YtacjiocffbgkkaaGreatSrcV
namespace Go.Proofs.YtacjiocffbgkkaaGreat
open Go.RowKit Go.Lib Go.IntWalk Go.Sort Go.Shelf

set_option maxRecDepth 1000000 in
set_option maxHeartbeats 4000000 in
theorem rsize_any (v : Value) (ls : List LVP) (w : World) (hv : RdLL w (· < w.heap.size) v ls) :
    Calls Tryz.prog 42 #[v] w fun e w' => e = .returned (.int .i64 (szR (ls.map fun p => p.2.map (·.2)) : Nat)) ∧ w' = w := by
  obtain ⟨A, c, rfl, hc1, hc2, hc3⟩ := hv.1.open_
  unfold maxLen at hc2
  cases hls : ls with
  | nil =>
    subst hls
    clear hc3 hv
    simp only [List.length_nil]
    go_enter Tryz.func42, Tryz.ntmps42
    go_wp2_with fail
    go_ret
    exact ⟨rfl, rfl⟩
  | cons p r =>
    rw [← hls]
    have h0 : 0 < ls.length := by rw [hls]; simp
    have hz : szR (ls.map fun p => p.2.map (·.2)) = p.2.length := by rw [hls]; simp [szR]
    rw [hz]
    obtain ⟨b, off, rfl, hF, hcl, hx⟩ := RdLL.at_ hv h0
    have hp : ls[0] = p := by simp [hls]
    rw [hp] at hcl hx
    clear hz hp hls hv hc3
    obtain ⟨pv, ps⟩ := p
    simp only [Nat.add_zero] at hcl hx ⊢
    obtain ⟨Ap, cp, rfl, y1, y2, y3⟩ := hx.1.open_
    unfold maxLen at y2
    have h0i : ¬ (ls.length : Int) = 0 := by omega
    clear hx y3
    go_enter Tryz.func42, Tryz.ntmps42
    go_wp2_with fail
    go_ret
    exact ⟨rfl, rfl⟩

/-- the reference's segment, or the error -/
def ROpnOut (res : (List UInt8 × List (List Ver)) × Int) (w0 : World) (e : Ending) (w : World) : Prop :=
  ∃ v ls, e = .returned (.tuple #[.agg #[.string (strB res.1.1), v], .int .i64 res.2]) ∧ RdLL w (· < w.heap.size) v ls ∧ ls.map (fun p => p.2.map (·.2)) = res.1.2 ∧ Below w0.heap.size w0 w
theorem pair_set {w : World} {T : Nat} {a0 a1 : Value} {e : TypeId} (h : w.heap[T]? = some (.cells #[a0, a1] e (0, 0))) (c0 c1 : Value) : ((w.setCell ⟨T, 0, none⟩ c0).setCell ⟨T, 1, none⟩ c1).heap[T]? = some (.cells #[c0, c1] e (0, 0)) := by
  have h0 := heap_setCell_same w T 0 _ _ c0 h
  have h1 := heap_setCell_same _ T 1 _ _ c1 h0
  simpa using h1
theorem pair_chg (w : World) (T : Nat) (c0 c1 : Value) : Chg (· = T) w ((w.setCell ⟨T, 0, none⟩ c0).setCell ⟨T, 1, none⟩ c1) :=
  ((Chg.refl (· = T) w).setCell (p := ⟨T, 0, none⟩) (.inl rfl) c0).setCell (p := ⟨T, 1, none⟩) (.inl rfl) c1
theorem keep_ne {o r : Option Nat} (h : ∀ b, some b = o → some b ≠ r) : o = none ∨ o ≠ r := by
  cases o with
  | none => exact .inl rfl
  | some b => exact .inr (fun e => h b rfl e)
theorem allP_map (ls : List LVP) : (allP ls).map (·.2) = (ls.map fun p => p.2.map (·.2)).flatten := by
  unfold allP
  induction ls with
  | nil => rfl
  | cons p r ih => rw [List.flatMap_cons, List.map_append, List.map_cons, List.flatten_cons, ih]
theorem allP_app (ls : List LVP) (p : LVP) : allP (ls ++ [p]) = allP ls ++ p.2 := by
  unfold allP
  rw [List.flatMap_append, List.flatMap_singleton]

set_option maxRecDepth 1000000 in
set_option maxHeartbeats 16000000 in
theorem ropen_any (v : Value) (l : List UInt8) (w : World) (hv : RdB w (· < w.heap.size) v l) (hl : l.length ≤ 1048576) :
    Calls Tryz.prog 10 #[v] w (ROpnOut (ropnF l) w) := by
  obtain ⟨Av, cv, rfl, y1, y2, y3⟩ := Rd.open_ hv
  unfold maxLen at y2
  have HV := Lib.hid hv
  obtain ⟨res, hres⟩ : ∃ r, r = ropnF l := ⟨_, rfl⟩
  rw [← hres]
  unfold ropnF at hres
  obtain ⟨W, hW⟩ : ∃ W, W = w.alloc (.cells #[.string ⟨#[]⟩, .slice none 0 0] 38) := ⟨_, rfl⟩
  have hbW : Below w.heap.size w W := by rw [hW]; exact Below.of_alloc _
  have hWs : W.heap.size = w.heap.size + 1 := by rw [hW]; simp
  have hR0 : W.heap[w.heap.size]? = some (.cells #[.string ⟨#[]⟩, .slice none 0 0] 38 (0, 0)) := by rw [hW]; exact heap_alloc_new _ _
  have HBW := Lib.hid hbW
  have HR0 := Lib.hid hR0
  have K1 := tnext_any _ l 0 W (RdB.below hv hbW)
  rcases hT : nextF l 0 with ⟨b0, k0, e0⟩
  rw [hT] at hres K1
  simp only at hres
  have HNX := Lib.hid hT
  have HRES := Lib.hid hres
  obtain ⟨i0, hi, hz0, hz1, hz2⟩ := info_parts infoVer
  have HI := Lib.hid hi
  have HZ0 := Lib.hid hz0
  have HZ1 := Lib.hid hz1
  have HZ2 := Lib.hid hz2
  obtain ⟨j0, hj, hy0, hy1, hy2⟩ := info_parts infoLL
  have HJ := Lib.hid hj
  have HY0 := Lib.hid hy0
  have HY1 := Lib.hid hy1
  have HY2 := Lib.hid hy2
  clear hv hres hT y3 hi hz0 hz1 hz2 hj hy0 hy1 hy2 hbW hR0
  go_enter Tryz.func10, Tryz.ntmps10
  go_wp2_with fail
  rw [← hW]
  clear hW
  (with_reducible refine K1.mono ?_)
  rintro _ w1 ⟨vb, rfl, hO1, hb1⟩
  simp only at hO1 ⊢
  have HO1 := Lib.hid hO1
  have HB1 : Hid (Below w.heap.size w w1) := Lib.hid (HBW.out.trans (hb1.mono HBW.out.size))
  have HR1 := Lib.hid ((hb1.block w.heap.size (by omega)).trans HR0.out)
  have hs1 : w.heap.size < w1.heap.size := by have := hb1.size; omega
  have HS1 := Lib.hid hs1
  clear hO1 hb1 K1 hs1
  by_cases h0 : e0 = 0
  case neg =>
    have HF : Hid (res = (([], []), e0)) := Lib.hid (by rw [HRES.out]; exact if_pos h0)
    have q0 : w1.cell? ⟨w.heap.size, 0, none⟩ = some (.string ⟨#[]⟩) := cell_of_row w1 _ 0 _ _ _ HR1.out
    have q1 : w1.cell? ⟨w.heap.size, 1, none⟩ = some (.slice none 0 0) := cell_of_row w1 _ 1 _ _ _ HR1.out
    have f0 : w1.frozen? ⟨w.heap.size, 0, none⟩ = false := frozen_of_row w1 _ 0 _ _ HR1.out
    have f1 : w1.frozen? ⟨w.heap.size, 1, none⟩ = false := frozen_of_row w1 _ 1 _ _ HR1.out
    have hZ := pair_set HR1.out (.string ⟨#[]⟩) (.slice none 0 0)
    have hZb := pair_chg w1 w.heap.size (.string ⟨#[]⟩) (.slice none 0 0)
    have HZ9 := Lib.hid hZ
    have HZB := Lib.hid hZb
    clear hZ hZb
    go_wp2_with fail
    generalize (w1.setCell ⟨w.heap.size, 0, none⟩ (.string ⟨#[]⟩)).setCell ⟨w.heap.size, 1, none⟩ (.slice none 0 0) = Z at *
    have y0 : Z.cell? ⟨w.heap.size, 0, none⟩ = some (.string ⟨#[]⟩) := cell_of_row Z _ 0 _ _ _ HZ9.out
    have y1 : Z.cell? ⟨w.heap.size, 1, none⟩ = some (.slice none 0 0) := cell_of_row Z _ 1 _ _ _ HZ9.out
    refine bodyPost_ret (v := .tuple #[.agg #[.string ⟨#[]⟩, .slice none 0 0], .int .i64 e0]) (by simp [results, Tryz.results10, go_sem, y0, y1]) rfl ?_
    rw [HF.out]
    exact ⟨.slice none 0 0, [], rfl, ⟨Rd.nil _ _ _, fun p hp => by cases hp⟩, rfl, HB1.out.trans (HZB.out.below HB1.out.size (fun i (hi : i = w.heap.size) => by omega))⟩
  case pos =>
    have hn0 := nextF_gt (h0 ▸ HNX.out)
    have K2 := header_any vb b0 w1 HO1.out.rd
    have htab := prsF_tab b0
    have hnum := prsF_num b0
    rcases hP : prsF b0 with ⟨tb, nb, e1⟩
    rw [hP] at K2 htab hnum
    simp only at htab hnum
    obtain ⟨N, rfl⟩ := Int.eq_ofNat_of_zero_le hnum
    have HX1 : Hid (res = if e1 ≠ 0 then (([], []), e1) else if (opnL l N k0).2.2 ≠ 0 then (([], []), (opnL l N k0).2.2) else if (opnL l N k0).2.1 < l.length then (([], []), 3)
        else if (bldF tb (opnL l N k0).1.flatten (szR (opnL l N k0).1)).2 ≠ 0 ∨ (bldF tb (opnL l N k0).1.flatten (szR (opnL l N k0).1)).1 ≠ l then (([], []), 24) else ((tb, (opnL l N k0).1), 0)) := Lib.hid (by
      rw [HRES.out, if_neg (by simpa using h0), hP]
      simp only [Int.toNat_natCast])
    have HTB := Lib.hid htab
    have HN0 := Lib.hid hn0
    subst h0
    clear HRES hP hn0 hnum htab
    go_wp2_with fail
    (with_reducible refine K2.mono ?_)
    rintro _ w2 ⟨ts, tn, rfl, hb2, hok⟩
    simp only at hok ⊢
    have HB2 : Hid (Below w.heap.size w w2) := Lib.hid (HB1.out.trans (hb2.mono HB1.out.size))
    have HR2 := Lib.hid ((hb2.block w.heap.size HS1.out).trans HR1.out)
    have HS2 : Hid (w.heap.size < w2.heap.size) := Lib.hid (by have := hb2.size; have := HS1.out; omega)
    clear hb2 K2
    by_cases h1 : e1 = 0
    case neg =>
      have HF : Hid (res = (([], []), e1)) := Lib.hid (by rw [HX1.out]; exact if_pos h1)
      clear hok
      have q0 : w2.cell? ⟨w.heap.size, 0, none⟩ = some (.string ⟨#[]⟩) := cell_of_row w2 _ 0 _ _ _ HR2.out
      have q1 : w2.cell? ⟨w.heap.size, 1, none⟩ = some (.slice none 0 0) := cell_of_row w2 _ 1 _ _ _ HR2.out
      have f0 : w2.frozen? ⟨w.heap.size, 0, none⟩ = false := frozen_of_row w2 _ 0 _ _ HR2.out
      have f1 : w2.frozen? ⟨w.heap.size, 1, none⟩ = false := frozen_of_row w2 _ 1 _ _ HR2.out
      have hZ := pair_set HR2.out (.string ⟨#[]⟩) (.slice none 0 0)
      have hZb := pair_chg w2 w.heap.size (.string ⟨#[]⟩) (.slice none 0 0)
      have HZ9 := Lib.hid hZ
      have HZB := Lib.hid hZb
      clear hZ hZb
      go_wp2_with fail
      generalize (w2.setCell ⟨w.heap.size, 0, none⟩ (.string ⟨#[]⟩)).setCell ⟨w.heap.size, 1, none⟩ (.slice none 0 0) = Z at *
      have y0 : Z.cell? ⟨w.heap.size, 0, none⟩ = some (.string ⟨#[]⟩) := cell_of_row Z _ 0 _ _ _ HZ9.out
      have y1 : Z.cell? ⟨w.heap.size, 1, none⟩ = some (.slice none 0 0) := cell_of_row Z _ 1 _ _ _ HZ9.out
      refine bodyPost_ret (v := .tuple #[.agg #[.string ⟨#[]⟩, .slice none 0 0], .int .i64 e1]) (by simp [results, Tryz.results10, go_sem, y0, y1]) rfl ?_
      rw [HF.out]
      exact ⟨.slice none 0 0, [], rfl, ⟨Rd.nil _ _ _, fun p hp => by cases hp⟩, rfl, HB2.out.trans (HZB.out.below HB2.out.size (fun i (hi : i = w.heap.size) => by omega))⟩
    case pos =>
      obtain ⟨rfl, rfl⟩ := hok h1
      obtain ⟨rl, hrl⟩ : ∃ r, r = opnL l N k0 := ⟨_, rfl⟩
      have HX2 : Hid (res = if rl.2.2 ≠ 0 then (([], []), rl.2.2) else if rl.2.1 < l.length then (([], []), 3) else if (bldF tb rl.1.flatten (szR rl.1)).2 ≠ 0 ∨ (bldF tb rl.1.flatten (szR rl.1)).1 ≠ l then (([], []), 24) else ((tb, rl.1), 0)) := Lib.hid (by rw [HX1.out, if_neg (by simpa using h1), hrl])
      have HRL := Lib.hid hrl
      subst h1
      clear HX1 hrl hok
      obtain ⟨S, hS⟩ : ∃ S, S = w2.heap.size := ⟨_, rfl⟩
      obtain ⟨Y, hY⟩ : ∃ Y, Y = w2.alloc (.cells #[.string (strB tb), .slice none 0 0] 38) := ⟨_, rfl⟩
      have hbY : Below w2.heap.size w2 Y := by rw [hY]; exact Below.of_alloc _
      have hSY : Y.heap[S]? = some (.cells #[.string (strB tb), .slice none 0 0] 38 (0, 0)) := by rw [hY, hS]; exact heap_alloc_new _ _
      have HSY := Lib.hid hSY
      have HSS : Hid (S < Y.heap.size ∧ w.heap.size < S) := Lib.hid ⟨by rw [hY, hS]; simp, by have := HS2.out; omega⟩
      have HRY := Lib.hid ((hbY.block w.heap.size HS2.out).trans HR2.out)
      have HBY : Hid (Below w.heap.size w Y) := Lib.hid (HB2.out.trans (hbY.mono HB2.out.size))
      clear hbY hSY
      go_upto_region 8 with (fail)
      rw [← hY, ← hS]
      clear hY hS
      go_wp2_with fail
      go_loopw [5, 10, 11] (fun a o i wr => ∃ (i' : Nat) (k : Int) (bl : Value) (ls : List LVP) (dn : List (List Ver)), i = .int .i64 (i' : Int) ∧ a = .int .i64 k ∧ i' ≤ N ∧ (i' : Int) ≤ k ∧ ls.length = i' ∧ ((allP ls).length : Int) ≤ k ∧ k ≤ l.length ∧ Hid (wr.heap[S]? = some (.cells #[.string (strB tb), bl] 38 (0, 0))) ∧ Hid (wr.heap[w.heap.size]? = some (.cells #[.string ⟨#[]⟩, .slice none 0 0] 38 (0, 0))) ∧ Hid (OwnLL wr (S + 1) bl ls) ∧ Hid (OwnP wr (S + 1) o (allP ls)) ∧ Hid (∀ p ∈ ls, RdVs wr (fun b => b < wr.heap.size ∧ some b ≠ Value.ownBlock o ∧ some b ≠ Value.ownBlock bl ∧ b ≠ S ∧ b ≠ w.heap.size) p.1 p.2) ∧ Hid (ls.map (fun p => p.2.map (·.2)) = dn) ∧ Hid ((dn ++ (opnL l (N - i') k).1, (opnL l (N - i') k).2) = rl ∨ rl.2.2 ≠ 0 ∧ (opnL l (N - i') k).2 = rl.2) ∧ Hid (Below w.heap.size w wr) ∧ S < wr.heap.size) (fun _ _ i _ => N - (intOf i).toNat)
      case atStart => exact ⟨0, k0, .slice none 0 0, [], [], rfl, rfl, Nat.zero_le _, by have := HN0.out; simp; omega, rfl, by have := HN0.out; simp [allP]; omega, by have := HN0.out; omega, HSY, HRY, Lib.hid (World.ownsRow_nil _ _ _ _), Lib.hid (World.ownsRow_nil _ _ _ _), Lib.hid (fun p hp => by cases hp), Lib.hid rfl, Lib.hid (.inl HRL.out.symm), HBY, HSS.out.1⟩
      case round =>
        obtain ⟨i', k, bl, ls, dn, rfl, rfl, hi', hik, hll, hQk, hkl, HSB, HRB, HOL, HOP, HEL, HDN, HG, HB, hSl⟩ := hrel
        obtain ⟨wi, rfl⟩ : ∃ wi : World, wi = wr := ⟨_, rfl⟩
        have hsi := HB.out.size
        have HSI := Lib.hid hSl
        have HLL := Lib.hid hll
        have hil : ls.length ≤ 1048576 := by omega
        clear hll
        obtain ⟨Ao, co, rfl, o1, o2, o3⟩ := Rd.open_ (Rd.of_own HOP.out)
        obtain ⟨Ab, cb, rfl, p1, p2, p3⟩ := Rd.open_ (Rd.of_own HOL.out)
        unfold maxLen at o2 p2
        clear o3 p3
        have hQl : (allP ls).length ≤ 1048576 := by omega
        have HRB2 : Hid (w.heap.size < S) := Lib.hid HSS.out.2
        by_cases hlt : i' < N
        case neg =>
          have hni : ¬ (i' : Int) < (N : Int) := by omega
          have hRL : rl = (dn, k, 0) := by
            have h0 : opnL l (N - i') k = ([], k, 0) := by rw [show N - i' = 0 by omega]; rfl
            rcases HG.out with h | ⟨h1, h2⟩
            · rw [← h, h0]; simp
            · rw [h0] at h2; exact absurd (by rw [← h2]) h1
          have HX3 : Hid (res = if k < l.length then (([], []), 3) else if (bldF tb dn.flatten (szR dn)).2 ≠ 0 ∨ (bldF tb dn.flatten (szR dn)).1 ≠ l then (([], []), 24) else ((tb, dn), 0)) := Lib.hid (by rw [HX2.out, hRL]; exact if_neg (by simp))
          clear hRL
          by_cases hk : k < (l.length : Int)
          case pos =>
            have HF : Hid (res = (([], []), 3)) := Lib.hid (by rw [HX3.out]; exact if_pos hk)
            have q0 : wi.cell? ⟨w.heap.size, 0, none⟩ = some (.string ⟨#[]⟩) := cell_of_row wi _ 0 _ _ _ HRB.out
            have q1 : wi.cell? ⟨w.heap.size, 1, none⟩ = some (.slice none 0 0) := cell_of_row wi _ 1 _ _ _ HRB.out
            have f0 : wi.frozen? ⟨w.heap.size, 0, none⟩ = false := frozen_of_row wi _ 0 _ _ HRB.out
            have f1 : wi.frozen? ⟨w.heap.size, 1, none⟩ = false := frozen_of_row wi _ 1 _ _ HRB.out
            have hZ := pair_set HRB.out (.string ⟨#[]⟩) (.slice none 0 0)
            have hZb := pair_chg wi w.heap.size (.string ⟨#[]⟩) (.slice none 0 0)
            have HZ9 := Lib.hid hZ
            have HZB := Lib.hid hZb
            clear hZ hZb
            go_wp2_with fail
            generalize (wi.setCell ⟨w.heap.size, 0, none⟩ (.string ⟨#[]⟩)).setCell ⟨w.heap.size, 1, none⟩ (.slice none 0 0) = Z at *
            have y0 : Z.cell? ⟨w.heap.size, 0, none⟩ = some (.string ⟨#[]⟩) := cell_of_row Z _ 0 _ _ _ HZ9.out
            have y1 : Z.cell? ⟨w.heap.size, 1, none⟩ = some (.slice none 0 0) := cell_of_row Z _ 1 _ _ _ HZ9.out
            refine bodyPost_ret (v := .tuple #[.agg #[.string ⟨#[]⟩, .slice none 0 0], .int .i64 3]) (by simp [results, Tryz.results10, go_sem, y0, y1]) rfl ?_
            rw [HF.out]
            exact ⟨.slice none 0 0, [], rfl, ⟨Rd.nil _ _ _, fun p hp => by cases hp⟩, rfl, HB.out.trans (HZB.out.below HB.out.size (fun i (hi : i = w.heap.size) => by omega))⟩
          case neg =>
            have hRd : RdVs wi (· < wi.heap.size) (.slice Ao (allP ls).length co) (allP ls) := ⟨(Rd.of_own HOP.out).wide (fun b hb => hb.2), fun p hp => by
              obtain ⟨q, hq, hpq⟩ := List.mem_flatMap.1 hp
              exact ((HEL.out q hq).2 p hpq).wide fun b hb => hb.1⟩
            have hRL2 : RdLL wi (fun b => b < wi.heap.size ∧ b ≠ w.heap.size) (.slice Ab ls.length cb) ls := ⟨(Rd.of_own HOL.out).wide (fun b hb => ⟨hb.2, by have := hb.1; have := HRB2.out; omega⟩), fun p hp => (HEL.out p hp).wide fun b hb => ⟨hb.1, hb.2.2.2.2⟩⟩
            have KZ := rsize_any _ ls wi (hRL2.wide fun b hb => hb.1)
            rw [HDN.out] at KZ
            have KB := fun V (h : V = wi) => refBuild_any tb _ (allP ls) (szR dn : Nat) V (h ▸ hRd) (by have := HTB.out; omega) hQl
            rw [show (allP ls).map (·.2) = dn.flatten from by rw [allP_map, HDN.out]] at KB
            obtain ⟨bf, hbf⟩ : ∃ b, b = (bldF tb dn.flatten (szR dn)) := ⟨_, rfl⟩
            rw [← hbf] at KB
            have HX4 : Hid (res = if bf.2 ≠ 0 ∨ bf.1 ≠ l then (([], []), 24) else ((tb, dn), 0)) := Lib.hid (by rw [HX3.out, if_neg hk, hbf])
            have HRL2 := Lib.hid hRL2
            clear hbf hRd HX3 HG hRL2
            obtain ⟨bb, eb⟩ := bf
            simp only at HX4
            generalize szR dn = zz at *
            have c0 : wi.cell? ⟨S, 0, none⟩ = some (.string (strB tb)) := cell_of_row wi _ 0 _ _ _ HSB.out
            have c1 : wi.cell? ⟨S, 1, none⟩ = some (.slice Ab ls.length cb) := cell_of_row wi _ 1 _ _ _ HSB.out
            go_wp2_with fail
            (with_reducible refine KZ.mono ?_)
            rintro _ z1 ⟨rfl, hz1⟩
            rw [hz1]
            clear hz1 z1 KZ
            have KB := KB wi rfl
            go_wp2_with fail
            (with_reducible refine KB.mono ?_)
            rintro _ w3 ⟨u3, rfl, hO3, hb3⟩
            simp only at hO3 ⊢
            have HB3 : Hid (Below w.heap.size w w3) := Lib.hid (HB.out.trans (hb3.mono hsi))
            have HR3 := Lib.hid ((hb3.block w.heap.size (by have := HRB2.out; omega)).trans HRB.out)
            have HS3 := Lib.hid ((hb3.block S HSI.out).trans HSB.out)
            have HL3 : Hid (RdLL w3 (fun b => b < w3.heap.size ∧ b ≠ w.heap.size) (.slice Ab ls.length cb) ls) := Lib.hid ((HRL2.out.keep (fun b hb => hb3.block b hb.1)).wide (fun b hb => ⟨by have := hb3.size; have := hb.1; omega, hb.2⟩))
            have HO3 := Lib.hid hO3
            have hcv1 := run_bytes_str hO3.rd
            have hcv2 := run_bytes_str (RdB.below HV.out HB3.out)
            clear hb3 hO3 KB c0 c1
            by_cases he : eb = 0
            case neg =>
              have HF : Hid (res = (([], []), 24)) := Lib.hid (by rw [HX4.out]; exact if_pos (.inl he))
              clear hcv1 hcv2
              have q0 : w3.cell? ⟨w.heap.size, 0, none⟩ = some (.string ⟨#[]⟩) := cell_of_row w3 _ 0 _ _ _ HR3.out
              have q1 : w3.cell? ⟨w.heap.size, 1, none⟩ = some (.slice none 0 0) := cell_of_row w3 _ 1 _ _ _ HR3.out
              have f0 : w3.frozen? ⟨w.heap.size, 0, none⟩ = false := frozen_of_row w3 _ 0 _ _ HR3.out
              have f1 : w3.frozen? ⟨w.heap.size, 1, none⟩ = false := frozen_of_row w3 _ 1 _ _ HR3.out
              have hZ := pair_set HR3.out (.string ⟨#[]⟩) (.slice none 0 0)
              have hZb := pair_chg w3 w.heap.size (.string ⟨#[]⟩) (.slice none 0 0)
              have HZ9 := Lib.hid hZ
              have HZB := Lib.hid hZb
              clear hZ hZb
              go_wp2_with fail
              generalize (w3.setCell ⟨w.heap.size, 0, none⟩ (.string ⟨#[]⟩)).setCell ⟨w.heap.size, 1, none⟩ (.slice none 0 0) = Z at *
              have y0 : Z.cell? ⟨w.heap.size, 0, none⟩ = some (.string ⟨#[]⟩) := cell_of_row Z _ 0 _ _ _ HZ9.out
              have y1 : Z.cell? ⟨w.heap.size, 1, none⟩ = some (.slice none 0 0) := cell_of_row Z _ 1 _ _ _ HZ9.out
              refine bodyPost_ret (v := .tuple #[.agg #[.string ⟨#[]⟩, .slice none 0 0], .int .i64 24]) (by simp [results, Tryz.results10, go_sem, y0, y1]) rfl ?_
              rw [HF.out]
              exact ⟨.slice none 0 0, [], rfl, ⟨Rd.nil _ _ _, fun p hp => by cases hp⟩, rfl, HB3.out.trans (HZB.out.below HB3.out.size (fun i (hi : i = w.heap.size) => by omega))⟩
            case pos =>
              subst he
              by_cases hbl : bb = l
              case neg =>
                have HF : Hid (res = (([], []), 24)) := Lib.hid (by rw [HX4.out]; exact if_pos (.inr hbl))
                have hbl2 : ((strB bb).toList == (strB l).toList) = false := by rw [strB_toList, strB_toList]; simpa using hbl
                have hbl3 : ¬ strB bb = strB l := fun h => hbl (strB_inj.1 h)
                have q0 : w3.cell? ⟨w.heap.size, 0, none⟩ = some (.string ⟨#[]⟩) := cell_of_row w3 _ 0 _ _ _ HR3.out
                have q1 : w3.cell? ⟨w.heap.size, 1, none⟩ = some (.slice none 0 0) := cell_of_row w3 _ 1 _ _ _ HR3.out
                have f0 : w3.frozen? ⟨w.heap.size, 0, none⟩ = false := frozen_of_row w3 _ 0 _ _ HR3.out
                have f1 : w3.frozen? ⟨w.heap.size, 1, none⟩ = false := frozen_of_row w3 _ 1 _ _ HR3.out
                have hZ := pair_set HR3.out (.string ⟨#[]⟩) (.slice none 0 0)
                have hZb := pair_chg w3 w.heap.size (.string ⟨#[]⟩) (.slice none 0 0)
                have HZ9 := Lib.hid hZ
                have HZB := Lib.hid hZb
                clear hZ hZb
                go_wp2_with fail
                generalize (w3.setCell ⟨w.heap.size, 0, none⟩ (.string ⟨#[]⟩)).setCell ⟨w.heap.size, 1, none⟩ (.slice none 0 0) = Z at *
                have y0 : Z.cell? ⟨w.heap.size, 0, none⟩ = some (.string ⟨#[]⟩) := cell_of_row Z _ 0 _ _ _ HZ9.out
                have y1 : Z.cell? ⟨w.heap.size, 1, none⟩ = some (.slice none 0 0) := cell_of_row Z _ 1 _ _ _ HZ9.out
                refine bodyPost_ret (v := .tuple #[.agg #[.string ⟨#[]⟩, .slice none 0 0], .int .i64 24]) (by simp [results, Tryz.results10, go_sem, y0, y1]) rfl ?_
                rw [HF.out]
                exact ⟨.slice none 0 0, [], rfl, ⟨Rd.nil _ _ _, fun p hp => by cases hp⟩, rfl, HB3.out.trans (HZB.out.below HB3.out.size (fun i (hi : i = w.heap.size) => by omega))⟩
              case pos =>
                have HF : Hid (res = ((tb, dn), 0)) := Lib.hid (by rw [HX4.out]; exact if_neg (fun h => h.elim (fun h => h rfl) (fun h => h hbl)))
                subst hbl
                have c0 : w3.cell? ⟨S, 0, none⟩ = some (.string (strB tb)) := cell_of_row w3 _ 0 _ _ _ HS3.out
                have c1 : w3.cell? ⟨S, 1, none⟩ = some (.slice Ab ls.length cb) := cell_of_row w3 _ 1 _ _ _ HS3.out
                have q0 : w3.cell? ⟨w.heap.size, 0, none⟩ = some (.string ⟨#[]⟩) := cell_of_row w3 _ 0 _ _ _ HR3.out
                have q1 : w3.cell? ⟨w.heap.size, 1, none⟩ = some (.slice none 0 0) := cell_of_row w3 _ 1 _ _ _ HR3.out
                have f0 : w3.frozen? ⟨w.heap.size, 0, none⟩ = false := frozen_of_row w3 _ 0 _ _ HR3.out
                have f1 : w3.frozen? ⟨w.heap.size, 1, none⟩ = false := frozen_of_row w3 _ 1 _ _ HR3.out
                have hZ := pair_set HR3.out (.string (strB tb)) (.slice Ab ls.length cb)
                have hZb := pair_chg w3 w.heap.size (.string (strB tb)) (.slice Ab ls.length cb)
                have HZ9 := Lib.hid hZ
                have HZB := Lib.hid hZb
                clear hZ hZb
                go_wp2_with fail
                generalize (w3.setCell ⟨w.heap.size, 0, none⟩ (.string (strB tb))).setCell ⟨w.heap.size, 1, none⟩ (.slice Ab ls.length cb) = Z at *
                have y0 : Z.cell? ⟨w.heap.size, 0, none⟩ = some (.string (strB tb)) := cell_of_row Z _ 0 _ _ _ HZ9.out
                have y1 : Z.cell? ⟨w.heap.size, 1, none⟩ = some (.slice Ab ls.length cb) := cell_of_row Z _ 1 _ _ _ HZ9.out
                refine bodyPost_ret (v := .tuple #[.agg #[.string (strB tb), .slice Ab ls.length cb], .int .i64 0]) (by simp [results, Tryz.results10, go_sem, y0, y1]) rfl ?_
                rw [HF.out]
                exact ⟨.slice Ab ls.length cb, ls, rfl, (HL3.out.keep (fun b hb => HZB.out.block b hb.1 hb.2)).wide (fun b hb => by show b < Z.heap.size; have := hb.1; have := HZB.out.size; omega), HDN.out, HB3.out.trans (HZB.out.below HB3.out.size (fun i (hi : i = w.heap.size) => by omega))⟩
        case pos =>
          have hni : (i' : Int) < (N : Int) := by omega
          have hstep : opnL l (N - i') k = if (nextF l k).2.2 ≠ 0 then ([], 0, (nextF l k).2.2) else if (decVersions (nextF l k).1).2 ≠ 0 then ([], 0, (decVersions (nextF l k).1).2) else ((decVersions (nextF l k).1).1 :: (opnL l (N - (i' + 1)) (nextF l k).2.1).1, (opnL l (N - (i' + 1)) (nextF l k).2.1).2) := by
            rw [show N - i' = (N - (i' + 1)) + 1 by omega]; rfl
          have KN := tnext_any _ l k wi (RdB.below HV.out HB.out)
          rcases hT : nextF l k with ⟨bd, k2, e2⟩
          rw [hT] at hstep KN
          simp only at hstep
          have HNX2 := Lib.hid hT
          have HST := Lib.hid hstep
          clear hstep hT
          go_wp2_with fail
          (with_reducible refine KN.mono ?_)
          rintro _ w3 ⟨vd, rfl, hO3, hb3⟩
          simp only at hO3 ⊢
          have HO3 := Lib.hid hO3
          have HB3i := Lib.hid hb3
          have HB3 : Hid (Below w.heap.size w w3) := Lib.hid (HB.out.trans (hb3.mono hsi))
          have HR3 := Lib.hid ((hb3.block w.heap.size (by have := HRB2.out; omega)).trans HRB.out)
          clear hO3 hb3 KN
          by_cases he2 : e2 = 0
          case neg =>
            have HF : Hid (res = (([], []), e2)) := Lib.hid (by
              have h0 : rl.2 = (0, e2) := by
                have hs := HST.out
                rw [if_pos he2] at hs
                rcases HG.out with h | ⟨h1, h2⟩
                · rw [← h, hs]
                · rw [← h2, hs]
              rw [HX2.out, h0]; exact if_pos he2)
            have q0 : w3.cell? ⟨w.heap.size, 0, none⟩ = some (.string ⟨#[]⟩) := cell_of_row w3 _ 0 _ _ _ HR3.out
            have q1 : w3.cell? ⟨w.heap.size, 1, none⟩ = some (.slice none 0 0) := cell_of_row w3 _ 1 _ _ _ HR3.out
            have f0 : w3.frozen? ⟨w.heap.size, 0, none⟩ = false := frozen_of_row w3 _ 0 _ _ HR3.out
            have f1 : w3.frozen? ⟨w.heap.size, 1, none⟩ = false := frozen_of_row w3 _ 1 _ _ HR3.out
            have hZ := pair_set HR3.out (.string ⟨#[]⟩) (.slice none 0 0)
            have hZb := pair_chg w3 w.heap.size (.string ⟨#[]⟩) (.slice none 0 0)
            have HZ9 := Lib.hid hZ
            have HZB := Lib.hid hZb
            clear hZ hZb
            go_wp2_with fail
            generalize (w3.setCell ⟨w.heap.size, 0, none⟩ (.string ⟨#[]⟩)).setCell ⟨w.heap.size, 1, none⟩ (.slice none 0 0) = Z at *
            have y0 : Z.cell? ⟨w.heap.size, 0, none⟩ = some (.string ⟨#[]⟩) := cell_of_row Z _ 0 _ _ _ HZ9.out
            have y1 : Z.cell? ⟨w.heap.size, 1, none⟩ = some (.slice none 0 0) := cell_of_row Z _ 1 _ _ _ HZ9.out
            refine bodyPost_ret (v := .tuple #[.agg #[.string ⟨#[]⟩, .slice none 0 0], .int .i64 e2]) (by simp [results, Tryz.results10, go_sem, y0, y1]) rfl ?_
            rw [HF.out]
            exact ⟨.slice none 0 0, [], rfl, ⟨Rd.nil _ _ _, fun p hp => by cases hp⟩, rfl, HB3.out.trans (HZB.out.below HB3.out.size (fun i (hi : i = w.heap.size) => by omega))⟩
          case pos =>
            have hnx := nextF_gt (he2 ▸ HNX2.out)
            have KD := refDecodeVersions_any vd bd w3 HO3.out.rd
            have hdl2 := decVersions_len bd
            rcases hD : decVersions bd with ⟨vs, e3⟩
            rw [hD] at KD hdl2
            simp only at hdl2
            have hst2 : opnL l (N - i') k = if e3 ≠ 0 then ([], 0, e3) else (vs :: (opnL l (N - (i' + 1)) k2).1, (opnL l (N - (i' + 1)) k2).2) := by
              rw [HST.out, if_neg (by simpa using he2), hD]
            have HST2 := Lib.hid hst2
            have HNXB := Lib.hid hnx
            subst he2
            clear hst2 hD hnx HST
            go_wp2_with fail
            (with_reducible refine KD.mono ?_)
            rintro _ w4 ⟨u4, Q4, rfl, hQ4, hM4, hb4⟩
            simp only at hM4 ⊢
            have HB4i : Hid (Below wi.heap.size wi w4) := Lib.hid (HB3i.out.trans (hb4.mono HB3i.out.size))
            have HB4 : Hid (Below w.heap.size w w4) := Lib.hid (HB3.out.trans (hb4.mono HB3.out.size))
            have HR4 := Lib.hid ((HB4i.out.block w.heap.size (by have := HRB2.out; omega)).trans HRB.out)
            have HS4 := Lib.hid ((HB4i.out.block S HSI.out).trans HSB.out)
            have HSZ4 : Hid (wi.heap.size ≤ w3.heap.size ∧ w3.heap.size ≤ w4.heap.size) := Lib.hid ⟨HB3i.out.size, hb4.size⟩
            have HQ4 := Lib.hid hQ4
            have HM4 := Lib.hid hM4
            have hq4 : Q4.length = vs.length := by rw [← hM4, List.length_map]
            have HQ4L := Lib.hid hq4
            clear hb4 hM4 KD
            by_cases he3 : e3 = 0
            case neg =>
              have HF : Hid (res = (([], []), e3)) := Lib.hid (by
                have h0 : rl.2 = (0, e3) := by
                  have hs := HST2.out
                  rw [if_pos he3] at hs
                  rcases HG.out with h | ⟨h1, h2⟩
                  · rw [← h, hs]
                  · rw [← h2, hs]
                rw [HX2.out, h0]; exact if_pos he3)
              clear hq4 hQ4
              have q0 : w4.cell? ⟨w.heap.size, 0, none⟩ = some (.string ⟨#[]⟩) := cell_of_row w4 _ 0 _ _ _ HR4.out
              have q1 : w4.cell? ⟨w.heap.size, 1, none⟩ = some (.slice none 0 0) := cell_of_row w4 _ 1 _ _ _ HR4.out
              have f0 : w4.frozen? ⟨w.heap.size, 0, none⟩ = false := frozen_of_row w4 _ 0 _ _ HR4.out
              have f1 : w4.frozen? ⟨w.heap.size, 1, none⟩ = false := frozen_of_row w4 _ 1 _ _ HR4.out
              have hZ := pair_set HR4.out (.string ⟨#[]⟩) (.slice none 0 0)
              have hZb := pair_chg w4 w.heap.size (.string ⟨#[]⟩) (.slice none 0 0)
              have HZ9 := Lib.hid hZ
              have HZB := Lib.hid hZb
              clear hZ hZb
              go_wp2_with fail
              generalize (w4.setCell ⟨w.heap.size, 0, none⟩ (.string ⟨#[]⟩)).setCell ⟨w.heap.size, 1, none⟩ (.slice none 0 0) = Z at *
              have y0 : Z.cell? ⟨w.heap.size, 0, none⟩ = some (.string ⟨#[]⟩) := cell_of_row Z _ 0 _ _ _ HZ9.out
              have y1 : Z.cell? ⟨w.heap.size, 1, none⟩ = some (.slice none 0 0) := cell_of_row Z _ 1 _ _ _ HZ9.out
              refine bodyPost_ret (v := .tuple #[.agg #[.string ⟨#[]⟩, .slice none 0 0], .int .i64 e3]) (by simp [results, Tryz.results10, go_sem, y0, y1]) rfl ?_
              rw [HF.out]
              exact ⟨.slice none 0 0, [], rfl, ⟨Rd.nil _ _ _, fun p hp => by cases hp⟩, rfl, HB4.out.trans (HZB.out.below HB4.out.size (fun i (hi : i = w.heap.size) => by omega))⟩
            case pos =>
              obtain ⟨A4, c4, rfl, x1, x2, x3⟩ := hQ4.1.open_
              unfold maxLen at x2
              have hq4l : Q4.length ≤ 1048576 := by have := HNXB.out; omega
              have hQQ : ((allP ls).length : Int) + Q4.length ≤ k2 ∧ k2 ≤ l.length ∧ (i' : Int) + 1 ≤ k2 := by have := HNXB.out; omega
              have HQQ := Lib.hid hQQ
              have HLT := Lib.hid hlt
              have HOW : Hid ((∀ b, some b = (Value.slice Ao (allP ls).length co).ownBlock → S + 1 ≤ b ∧ b < wi.heap.size) ∧ (∀ b, some b = (Value.slice Ab ls.length cb).ownBlock → S + 1 ≤ b ∧ b < wi.heap.size) ∧ (∀ b, some b = (Value.slice Ao (allP ls).length co).ownBlock → some b ≠ (Value.slice Ab ls.length cb).ownBlock)) := Lib.hid (by
                refine ⟨fun b hb => ?_, fun b hb => ?_, fun b hb hb2 => ?_⟩
                · obtain ⟨g1, cur, g2⟩ := own_block HOP.out hb
                  exact ⟨g1, (Array.getElem?_eq_some_iff.1 g2).1⟩
                · obtain ⟨g1, cur, g2⟩ := own_block HOL.out hb
                  exact ⟨g1, (Array.getElem?_eq_some_iff.1 g2).1⟩
                · obtain ⟨g1, cur, g2⟩ := own_block HOP.out hb
                  obtain ⟨f1, cur2, f2⟩ := own_block HOL.out hb2
                  rw [g2] at f2
                  simp only [Option.some.injEq, Obj.cells.injEq] at f2
                  exact absurd f2.2.1 (by decide))
              subst he3
              clear x3 hQ4 hq4 hdl2 hlt hi' hik hQk hkl hni hQQ hSl hsi
              have hbD : Below w4.heap.size w4 (w4.alloc (.cells #[.slice A4 Q4.length c4] 22)) := Below.of_alloc _
              have hDs : (w4.alloc (.cells #[.slice A4 Q4.length c4] 22)).heap.size = w4.heap.size + 1 := by simp
              have HDS := Lib.hid hDs
              have HNW : Hid (Rd (w4.alloc (.cells #[.slice A4 Q4.length c4] 22)) (· = w4.heap.size) 1 (.slice (some ⟨w4.heap.size, 0, none⟩) 1 1) 1 [.slice A4 Q4.length c4]) := Lib.hid (Rd.new' w4 w4.heap.size rfl [.slice A4 Q4.length c4] 22 1 1 rfl (by decide))
              have HBD : Hid (Below wi.heap.size wi (w4.alloc (.cells #[.slice A4 Q4.length c4] 22))) := Lib.hid (HB4i.out.trans (hbD.mono HB4i.out.size))
              have HBDw : Hid (Below w.heap.size w (w4.alloc (.cells #[.slice A4 Q4.length c4] 22))) := Lib.hid (HB4.out.trans (hbD.mono HB4.out.size))
              have HOLD : Hid (OwnLL (w4.alloc (.cells #[.slice A4 Q4.length c4] 22)) (S + 1) (.slice Ab ls.length cb) ls) := Lib.hid (own_below HOL.out HBD.out)
              have HOPD : Hid (OwnP (w4.alloc (.cells #[.slice A4 Q4.length c4] 22)) (S + 1) (.slice Ao (allP ls).length co) (allP ls)) := Lib.hid (own_below HOP.out HBD.out)
              have HQ4D : Hid (RdVs (w4.alloc (.cells #[.slice A4 Q4.length c4] 22)) (fun b => w3.heap.size ≤ b ∧ b < w4.heap.size) (.slice A4 Q4.length c4) Q4) := Lib.hid (HQ4.out.keep (fun b hb => hbD.block b hb.2))
              have HSD := Lib.hid ((HBD.out.block S HSI.out).trans HSB.out)
              have HRD := Lib.hid ((HBD.out.block w.heap.size (by have := HRB2.out; have := HSI.out; omega)).trans HRB.out)
              have c0 : w4.cell? ⟨S, 0, none⟩ = some (.string (strB tb)) := cell_of_row w4 _ 0 _ _ _ HS4.out
              have c1 : w4.cell? ⟨S, 1, none⟩ = some (.slice Ab ls.length cb) := cell_of_row w4 _ 1 _ _ _ HS4.out
              clear hbD
              have hSl2 : S + 1 ≤ (w4.alloc (.cells #[.slice A4 Q4.length c4] 22)).heap.size := by have := HSI.out; have := HBD.out.size; omega
              have hMx : ls.length + 1 ≤ 1048577 := by omega
              clear hDs
              go_upto_region 20 with (at_builtin; refine wpList_append_app (w4.alloc (.cells #[.slice A4 Q4.length c4] 22)) rfl (.tmp 66) (.tmp 68) 36 rfl (S + 1) 22 j0 _ 1 24 Tryz.underlying36 HJ.out HY0.out HY1.out HY2.out rfl (by omega) (.slice Ab ls.length cb) ls.length (ls.map (fun p : LVP => p.1)) rfl (.inl HOLD.out) (· = w4.heap.size) _ 1 [.slice A4 Q4.length c4] rfl HNW.out (by intro u hu; rw [List.mem_singleton] at hu; subst hu; rfl) (by unfold maxLen; omega) (by omega) hSl2 ?_; intro v5 w5 _ hO5 hg5 hb5 hv5; have hO5b := hO5 (.inl (by omega)); obtain ⟨A5, c5, rfl, r1, r2, r3⟩ := Rd.open_ (Rd.of_own hO5b); have hs5 : w4.heap.size + 1 ≤ w5.heap.size := (by have := hg5.size; simpa using this); have hbk5 : ∀ b, b < w4.heap.size + 1 → some b ≠ (Value.slice Ab ls.length cb).ownBlock → w5.heap[b]? = (w4.alloc (.cells #[.slice A4 Q4.length c4] 22)).heap[b]? := (fun b hb hne => hg5.block b (by simp; omega) hne); have hz4 := HSZ4.out; have hsi2 := HSI.out; have hrb2 := HRB2.out; have hS5 := (hbk5 S (by omega) (fun e => by have := (HOW.out.2.1 S e).1; omega)).trans HSD.out; have hq0 : w5.cell? ⟨S, 1, none⟩ = some (.slice Ab ls.length cb) := cell_of_row w5 _ 1 _ _ _ hS5; have hf0 : w5.frozen? ⟨S, 1, none⟩ = false := frozen_of_row w5 _ 1 _ _ hS5; clear r3)
              all_goals skip
              have HR5 := Lib.hid ((hbk5 w.heap.size (by omega) (fun e => by have := (HOW.out.2.1 _ e).1; omega)).trans HRD.out)
              have HBK5 : Hid (∀ b, b < w4.heap.size → some b ≠ (Value.slice Ab ls.length cb).ownBlock → w5.heap[b]? = w4.heap[b]?) := Lib.hid (fun b hb hne => (hbk5 b (by omega) hne).trans (Below.heap_alloc _ _ _ hb))
              have HOP5 : Hid (OwnP w5 (S + 1) (.slice Ao (allP ls).length co) (allP ls)) := Lib.hid (World.ownsRow.kept HOPD.out hg5 (keep_ne HOW.out.2.2))
              have HOL5 : Hid (OwnLL w5 (S + 1) (.slice A5 (ls.length + 1) c5) (ls ++ [(Value.slice A4 Q4.length c4, Q4)])) := Lib.hid (by
                have h := hO5 (.inl (by omega))
                unfold OwnLL
                rw [List.length_append, List.map_append]
                exact h)
              have HB5 : Hid (Below w.heap.size w w5) := Lib.hid (HBDw.out.trans (hb5.mono (by omega)))
              have HS5 := Lib.hid hs5
              have HV5 : Hid ((Value.slice A5 (ls.length + 1) c5).ownBlock = (Value.slice Ab ls.length cb).ownBlock ∨ (Value.slice A5 (ls.length + 1) c5).ownBlock = some (w4.heap.size + 1)) := Lib.hid (by simpa using hv5)
              have h6S : (w5.setCell ⟨S, 1, none⟩ (.slice A5 (ls.length + 1) c5)).heap[S]? = some (.cells #[.string (strB tb), (.slice A5 (ls.length + 1) c5)] 38 (0, 0)) := by simpa using heap_setCell_same w5 S 1 _ _ (.slice A5 (ls.length + 1) c5) hS5
              have h6c : Chg (· = S) w5 (w5.setCell ⟨S, 1, none⟩ (.slice A5 (ls.length + 1) c5)) := (Chg.refl (· = S) w5).setCell (p := ⟨S, 1, none⟩) (.inl rfl) (.slice A5 (ls.length + 1) c5)
              have h6b : Below w.heap.size w (w5.setCell ⟨S, 1, none⟩ (.slice A5 (ls.length + 1) c5)) := HB5.out.trans (h6c.below HB5.out.size (fun q (hq : q = S) => by omega))
              clear hS5 hbk5 hg5 hb5 hv5 hO5 hO5b c0 c1
              generalize w5.setCell ⟨S, 1, none⟩ (.slice A5 (ls.length + 1) c5) = w6 at *
              have h6z := h6c.size
              have HOP6 : Hid (OwnP w6 (S + 1) (.slice Ao (allP ls).length co) (allP ls)) := Lib.hid (World.ownsRow.kept (row := some S) HOP5.out ⟨h6c.os, h6c.tape, h6c.output, h6c.size, fun b hb hne => h6c.block b hb (fun e => hne (by rw [e]))⟩ (keep_ne (fun b hb e => by have := (HOW.out.1 b hb).1; simp only [Option.some.injEq] at e; omega)))
              have HOL6 : Hid (OwnLL w6 (S + 1) (.slice A5 (ls.length + 1) c5) (ls ++ [(Value.slice A4 Q4.length c4, Q4)])) := Lib.hid (World.ownsRow.kept (row := some S) HOL5.out ⟨h6c.os, h6c.tape, h6c.output, h6c.size, fun b hb hne => h6c.block b hb (fun e => hne (by rw [e]))⟩ (keep_ne (fun b hb e => by have := (own_block HOL5.out hb).1; simp only [Option.some.injEq] at e; omega)))
              have HR6 := Lib.hid ((h6c.block w.heap.size (by omega) (by omega)).trans HR5.out)
              have HBK6 : Hid (∀ b, b < w4.heap.size → b ≠ S → some b ≠ (Value.slice Ab ls.length cb).ownBlock → w6.heap[b]? = w4.heap[b]?) := Lib.hid (fun b hb h1 h2 => (h6c.block b (by omega) h1).trans (HBK5.out b hb h2))
              have HQ6 : Hid (RdVs w6 (fun b => w3.heap.size ≤ b ∧ b < w4.heap.size) (.slice A4 Q4.length c4) Q4) := Lib.hid (HQ4.out.keep (fun b hb => HBK6.out b hb.2 (by have := hb.1; omega) (fun e => by have := (HOW.out.2.1 b e).2; have := hb.1; omega)))
              have HS6 := Lib.hid h6S
              have HB6 := Lib.hid h6b
              have HZ6 : Hid (w4.heap.size + 1 ≤ w6.heap.size) := Lib.hid (by omega)
              have hz6 := HZ6.out
              have hq5l : (allP ls).length + Q4.length ≤ 2097152 := by omega
              have hib : i' + 1 ≤ 9223372036854775807 := by have := HQQ.out; omega
              have hib2 : (i' : Int) + 1 ≤ 9223372036854775807 := by omega
              have hib3 : -9223372036854775808 ≤ (i' : Int) + 1 := by omega
              clear h6S h6b h6c hq0 hf0
              go_wp2_with (at_builtin; refine wpList_append_app w6 rfl (.tmp 71) (.tmp 72) 22 rfl (S + 1) 61 i0 _ 9 88 Tryz.underlying22 HI.out HZ0.out HZ1.out HZ2.out rfl (by omega) (.slice Ao (allP ls).length co) (allP ls).length (cellsP (allP ls)) rfl (.inl HOP6.out) (fun b => w3.heap.size ≤ b ∧ b < w4.heap.size) _ Q4.length (cellsP Q4) rfl HQ6.out.1 (cellsP_one Q4) (by unfold maxLen; omega) (by omega) (by omega) ?_; intro v7 w7 hA7 hO7 hg7 hb7 hv7)
              all_goals skip
              have hs7 : w6.heap.size ≤ w7.heap.size := hg7.size
              have hz4 := HSZ4.out
              have hsi2 := HSI.out
              have hrb2 := HRB2.out
              have hz6 := HZ6.out
              have HOP7 : Hid (OwnP w7 (S + 1) v7 (allP (ls ++ [(Value.slice A4 Q4.length c4, Q4)]))) := Lib.hid (by
                have h := hO7 (.inr HOP6.out)
                unfold OwnP
                rw [allP_app, List.length_append, cellsP_append]
                exact h)
              have hdis : ∀ b, some b = (Value.slice A5 (ls.length + 1) c5).ownBlock → some b ≠ (Value.slice Ao (allP ls).length co).ownBlock := fun b hb hb2 => by
                rcases HV5.out with h | h
                · exact HOW.out.2.2 b hb2 (hb.trans h)
                · have h2 := hb.trans h
                  simp only [Option.some.injEq] at h2
                  have := (HOW.out.1 b hb2).2
                  omega
              have HOL7 : Hid (OwnLL w7 (S + 1) (.slice A5 (ls.length + 1) c5) (ls ++ [(Value.slice A4 Q4.length c4, Q4)])) := Lib.hid (World.ownsRow.kept HOL6.out hg7 (keep_ne hdis))
              have hne : ∀ b, b < w4.heap.size → some b ≠ (Value.slice Ab ls.length cb).ownBlock → some b ≠ (Value.slice A5 (ls.length + 1) c5).ownBlock := fun b hb h1 h2 => by
                rcases HV5.out with h | h
                · exact h1 (h2.trans h)
                · have h3 := h2.trans h
                  simp only [Option.some.injEq] at h3
                  omega
              have hne7 : ∀ b, b < w4.heap.size → some b ≠ (Value.slice Ao (allP ls).length co).ownBlock → some b ≠ v7.ownBlock := fun b hb h1 h2 => by
                rcases hv7 with h | h
                · exact h1 (h2.trans h)
                · have h3 := h2.trans h
                  simp only [Option.some.injEq] at h3
                  omega
              have HBK7 : Hid (∀ b, b < w4.heap.size → b ≠ S → some b ≠ (Value.slice Ab ls.length cb).ownBlock → some b ≠ (Value.slice Ao (allP ls).length co).ownBlock → w7.heap[b]? = w4.heap[b]?) := Lib.hid (fun b hb h1 h2 h3 => (hg7.block b (by omega) h3).trans (HBK6.out b hb h1 h2))
              have HS7 := Lib.hid ((hg7.block S (by omega) (fun e => by have := (HOW.out.1 S e).1; omega)).trans HS6.out)
              have HR7 := Lib.hid ((hg7.block w.heap.size (by omega) (fun e => by have := (HOW.out.1 _ e).1; omega)).trans HR6.out)
              have HEL7 : Hid (∀ p ∈ ls ++ [(Value.slice A4 Q4.length c4, Q4)], RdVs w7 (fun b => b < w7.heap.size ∧ some b ≠ Value.ownBlock v7 ∧ some b ≠ Value.ownBlock (.slice A5 (ls.length + 1) c5) ∧ b ≠ S ∧ b ≠ w.heap.size) p.1 p.2) := Lib.hid (fun p hp => by
                rcases List.mem_append.1 hp with hp | hp
                · refine ((HEL.out p hp).keep (w' := w7) (fun b hb => ?_)).wide (fun b hb => ?_)
                  · exact (HBK7.out b (by omega) hb.2.2.2.1 hb.2.2.1 hb.2.1).trans (HB4i.out.block b hb.1)
                  · exact ⟨by omega, hne7 b (by omega) hb.2.1, hne b (by omega) hb.2.2.1, hb.2.2.2.1, hb.2.2.2.2⟩
                · rw [List.mem_singleton] at hp
                  subst hp
                  have ha : ∀ b, w3.heap.size ≤ b ∧ b < w4.heap.size → some b ≠ (Value.slice Ab ls.length cb).ownBlock ∧ some b ≠ (Value.slice Ao (allP ls).length co).ownBlock := fun b hb => ⟨fun e => by have := (HOW.out.2.1 b e).2; omega, fun e => by have := (HOW.out.1 b e).2; omega⟩
                  refine (HQ4.out.keep (w' := w7) (fun b hb => ?_)).wide (fun b hb => ?_)
                  · exact HBK7.out b hb.2 (by have := hb.1; omega) (ha b hb).1 (ha b hb).2
                  · exact ⟨by omega, hne7 b hb.2 (ha b hb).2, hne b hb.2 (ha b hb).1, by omega, by omega⟩)
              have HB7 : Hid (Below w.heap.size w w7) := Lib.hid (HB6.out.trans (hb7.mono (by omega)))
              have HDN7 : Hid ((ls ++ [(Value.slice A4 Q4.length c4, Q4)]).map (fun p => p.2.map (·.2)) = dn ++ [vs]) := Lib.hid (by rw [List.map_append, HDN.out]; simp [HM4.out])
              have HG7 : Hid (((dn ++ [vs]) ++ (opnL l (N - (i' + 1)) k2).1, (opnL l (N - (i' + 1)) k2).2) = rl ∨ rl.2.2 ≠ 0 ∧ (opnL l (N - (i' + 1)) k2).2 = rl.2) := Lib.hid (by
                have hs := HST2.out
                rw [if_neg (by simp)] at hs
                rcases HG.out with h | ⟨h1, h2⟩
                · left; rw [← h, hs]; simp
                · right; rw [hs] at h2; exact ⟨h1, h2⟩)
              have HS8 : Hid (S < w7.heap.size) := Lib.hid (by omega)
              clear hA7 hO7 hg7 hb7 hv7 hdis hne hne7
              have hlen7 : ((allP (ls ++ [(Value.slice A4 Q4.length c4, Q4)])).length : Int) ≤ k2 := by
                rw [allP_app, List.length_append]
                have := HQQ.out
                show (((allP ls).length + Q4.length : Nat) : Int) ≤ k2
                omega
              have HLEN7 := Lib.hid hlen7
              clear hlen7
              go_wp2_with fail
              go_roundw
              case rel => exact ⟨i' + 1, k2, .slice A5 (ls.length + 1) c5, ls ++ [(Value.slice A4 Q4.length c4, Q4)], dn ++ [vs], by go_num, rfl, by have := HLT.out; omega, by have := HQQ.out; omega, by rw [List.length_append, HLL.out]; rfl, HLEN7.out, HQQ.out.2.1, HS7, HR7, HOL7, HOP7, HEL7, HDN7, HG7, HB7, HS8.out⟩
              case measure => have := HLT.out; simp [intOf]; omega
end Go.Proofs.YtacjiocffbgkkaaGreat
