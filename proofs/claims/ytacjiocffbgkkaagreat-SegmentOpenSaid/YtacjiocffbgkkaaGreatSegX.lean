/-
  The reference's rectangles of segments: Overlap, Versions, Bounds.
-/
import Derived.Test.YtacjiocffbgkkaaGreatSegW
namespace Go.Proofs.YtacjiocffbgkkaaGreat
open Go.RowKit Go.Lib Go.IntWalk Go.Sort Go.Shelf

theorem ovlR_short (a b : Rec) : ovlR a b = (validR a && (validR b && (decide (a.vf < b.vt) && (decide (b.vf < a.vt) && (decide (a.sf < b.st) && decide (b.sf < a.st)))))) := by
  unfold ovlR ovlP
  cases h1 : validR a
  · rfl
  · cases h2 : validR b
    · rfl
    · unfold validR at h1 h2
      rw [Bool.and_eq_true] at h1 h2
      rw [h1.1, h1.2, h2.1, h2.2]
      simp only [Bool.true_and, Bool.and_assoc]

set_option maxRecDepth 100000 in
set_option maxHeartbeats 4000000 in
theorem r31Ovl_any (a1 a2 a3 a4 b1 b2 b3 b4 : Int) (w : World) : Calls Tryz.prog 47 #[.agg #[.int .i64 a1, .int .i64 a2, .int .i64 a3, .int .i64 a4], .agg #[.int .i64 b1, .int .i64 b2, .int .i64 b3, .int .i64 b4]] w fun e w' => e = .returned (.bool (ovlR ⟨a1, a2, a3, a4⟩ ⟨b1, b2, b3, b4⟩)) ∧ Below w.heap.size w w' := by
  obtain ⟨W, hW⟩ : ∃ W, W = (w.alloc (.cells #[.int .i64 a1, .int .i64 a2, .int .i64 a3, .int .i64 a4] 26)).alloc (.cells #[.int .i64 b1, .int .i64 b2, .int .i64 b3, .int .i64 b4] 26) := ⟨_, rfl⟩
  have hbW : Below w.heap.size w W := by rw [hW]; exact (Below.of_alloc _).alloc (by simp) _
  have hWs : W.heap.size = w.heap.size + 2 := by rw [hW]; simp
  have h1 : W.heap[w.heap.size]? = some (.cells #[.int .i64 a1, .int .i64 a2, .int .i64 a3, .int .i64 a4] 26 (0, 0)) := by rw [hW]; exact (Below.heap_alloc _ _ _ (by simp)).trans (heap_alloc_new w _)
  have h2 : W.heap[w.heap.size + 1]? = some (.cells #[.int .i64 b1, .int .i64 b2, .int .i64 b3, .int .i64 b4] 26 (0, 0)) := by
    rw [hW]
    have := heap_alloc_new (w.alloc (.cells #[.int .i64 a1, .int .i64 a2, .int .i64 a3, .int .i64 a4] 26)) (.cells #[.int .i64 b1, .int .i64 b2, .int .i64 b3, .int .i64 b4] 26)
    simpa using this
  have FB : Hid (∀ V, Below W.heap.size W V → V.heap[w.heap.size]? = some (.cells #[.int .i64 a1, .int .i64 a2, .int .i64 a3, .int .i64 a4] 26 (0, 0)) ∧ V.heap[w.heap.size + 1]? = some (.cells #[.int .i64 b1, .int .i64 b2, .int .i64 b3, .int .i64 b4] 26 (0, 0))) := Lib.hid (fun V hV => ⟨(hV.block _ (by omega)).trans h1, (hV.block _ (by omega)).trans h2⟩)
  have HBW := Lib.hid hbW
  obtain ⟨v1, hv1⟩ : ∃ bo, bo = validR ⟨a1, a2, a3, a4⟩ := ⟨_, rfl⟩
  obtain ⟨v2, hv2⟩ : ∃ bo, bo = validR ⟨b1, b2, b3, b4⟩ := ⟨_, rfl⟩
  have K1 := r31Valid_any a1 a2 a3 a4 W
  have K2 := fun V => r31Valid_any b1 b2 b3 b4 V
  rw [← hv1] at K1
  rw [← hv2] at K2
  obtain ⟨rb, hrb⟩ : ∃ bo, bo = ovlR ⟨a1, a2, a3, a4⟩ ⟨b1, b2, b3, b4⟩ := ⟨_, rfl⟩
  rw [← hrb]
  have HR : Hid (rb = (v1 && (v2 && (decide (a1 < b2) && (decide (b1 < a2) && (decide (a3 < b4) && decide (b3 < a4))))))) := Lib.hid (by rw [hrb, ovlR_short, hv1, hv2])
  clear h1 h2 hbW hv1 hv2 hrb
  go_enter Tryz.func47, Tryz.ntmps47
  go_wp2_with fail
  rw [← hW]
  clear hW
  (with_reducible refine K1.mono ?_)
  rintro _ w1 ⟨rfl, hb1⟩
  have HB1 := Lib.hid hb1
  have p0 : w1.cell? ⟨w.heap.size, 0, none⟩ = some (.int .i64 a1) := cell_of_row w1 _ 0 _ _ _ ((FB.out w1 hb1).1)
  have p1 : w1.cell? ⟨w.heap.size, 1, none⟩ = some (.int .i64 a2) := cell_of_row w1 _ 1 _ _ _ ((FB.out w1 hb1).1)
  have p2 : w1.cell? ⟨w.heap.size, 2, none⟩ = some (.int .i64 a3) := cell_of_row w1 _ 2 _ _ _ ((FB.out w1 hb1).1)
  have p3 : w1.cell? ⟨w.heap.size, 3, none⟩ = some (.int .i64 a4) := cell_of_row w1 _ 3 _ _ _ ((FB.out w1 hb1).1)
  have q0 : w1.cell? ⟨w.heap.size + 1, 0, none⟩ = some (.int .i64 b1) := cell_of_row w1 _ 0 _ _ _ ((FB.out w1 hb1).2)
  have q1 : w1.cell? ⟨w.heap.size + 1, 1, none⟩ = some (.int .i64 b2) := cell_of_row w1 _ 1 _ _ _ ((FB.out w1 hb1).2)
  have q2 : w1.cell? ⟨w.heap.size + 1, 2, none⟩ = some (.int .i64 b3) := cell_of_row w1 _ 2 _ _ _ ((FB.out w1 hb1).2)
  have q3 : w1.cell? ⟨w.heap.size + 1, 3, none⟩ = some (.int .i64 b4) := cell_of_row w1 _ 3 _ _ _ ((FB.out w1 hb1).2)
  clear hb1 K1
  cases v1
  case false =>
    have HE : Hid (rb = false) := HR
    have HF : Hid (Below w.heap.size w w1) := Lib.hid (HBW.out.trans (HB1.out.mono (by omega)))
    go_wp2_with fail
    go_ret
    exact ⟨by rw [HE.out]; first | rfl | (simp; done) | (simp; omega), HF.out⟩
  case true =>
    have K2 := K2 w1
    go_wp2_with fail
    (with_reducible refine K2.mono ?_)
    rintro _ w2 ⟨rfl, hb2⟩
    have HB2 : Hid (Below W.heap.size W w2) := Lib.hid (HB1.out.trans (hb2.mono HB1.out.size))
    clear hb2 K2 p0 p1 p2 p3 q0 q1 q2 q3
    have p0 : w2.cell? ⟨w.heap.size, 0, none⟩ = some (.int .i64 a1) := cell_of_row w2 _ 0 _ _ _ ((FB.out w2 HB2.out).1)
    have p1 : w2.cell? ⟨w.heap.size, 1, none⟩ = some (.int .i64 a2) := cell_of_row w2 _ 1 _ _ _ ((FB.out w2 HB2.out).1)
    have p2 : w2.cell? ⟨w.heap.size, 2, none⟩ = some (.int .i64 a3) := cell_of_row w2 _ 2 _ _ _ ((FB.out w2 HB2.out).1)
    have p3 : w2.cell? ⟨w.heap.size, 3, none⟩ = some (.int .i64 a4) := cell_of_row w2 _ 3 _ _ _ ((FB.out w2 HB2.out).1)
    have q0 : w2.cell? ⟨w.heap.size + 1, 0, none⟩ = some (.int .i64 b1) := cell_of_row w2 _ 0 _ _ _ ((FB.out w2 HB2.out).2)
    have q1 : w2.cell? ⟨w.heap.size + 1, 1, none⟩ = some (.int .i64 b2) := cell_of_row w2 _ 1 _ _ _ ((FB.out w2 HB2.out).2)
    have q2 : w2.cell? ⟨w.heap.size + 1, 2, none⟩ = some (.int .i64 b3) := cell_of_row w2 _ 2 _ _ _ ((FB.out w2 HB2.out).2)
    have q3 : w2.cell? ⟨w.heap.size + 1, 3, none⟩ = some (.int .i64 b4) := cell_of_row w2 _ 3 _ _ _ ((FB.out w2 HB2.out).2)
    have HF : Hid (Below w.heap.size w w2) := Lib.hid (HBW.out.trans (HB2.out.mono (by omega)))
    cases v2
    case false =>
      have HE : Hid (rb = false) := HR
      go_wp2_with fail
      go_ret
      exact ⟨by rw [HE.out]; first | rfl | (simp; done) | (simp; omega), HF.out⟩
    case true =>
      by_cases hc1 : a1 < b2
      case neg =>
        have HE : Hid (rb = false) := Lib.hid (by rw [HR.out]; simp [hc1])
        go_wp2_with fail
        go_ret
        exact ⟨by rw [HE.out]; first | rfl | (simp; done) | (simp; omega), HF.out⟩
      case pos =>
        by_cases hc2 : b1 < a2
        case neg =>
          have HE : Hid (rb = false) := Lib.hid (by rw [HR.out]; simp [hc2])
          go_wp2_with fail
          go_ret
          exact ⟨by rw [HE.out]; first | rfl | (simp; done) | (simp; omega), HF.out⟩
        case pos =>
          by_cases hc3 : a3 < b4
          case neg =>
            have HE : Hid (rb = false) := Lib.hid (by rw [HR.out]; simp [hc3])
            go_wp2_with fail
            go_ret
            exact ⟨by rw [HE.out]; first | rfl | (simp; done) | (simp; omega), HF.out⟩
          case pos =>
            by_cases hc4 : b3 < a4
            case neg =>
              have HE : Hid (rb = false) := Lib.hid (by rw [HR.out]; simp [hc4])
              go_wp2_with fail
              go_ret
              exact ⟨by rw [HE.out]; first | rfl | (simp; done) | (simp; omega), HF.out⟩
            case pos =>
              have HE : Hid (rb = true) := Lib.hid (by rw [HR.out]; simp [hc1, hc2, hc3, hc4])
              go_wp2_with fail
              go_ret
              exact ⟨by rw [HE.out]; first | rfl | (simp; done) | (simp; omega), HF.out⟩


set_option maxRecDepth 1000000 in
set_option maxHeartbeats 1000000 in
theorem rVersions_any (t : ByteArray) (v : Value) (ls : List LVP) (w : World) (hv : RdLL w (· < w.heap.size) v ls) (hn : (allP ls).length ≤ 1099511627776) :
    Calls Tryz.prog 20 #[.agg #[.string t, v]] w fun e w' => ∃ u, e = .returned u ∧ RdVs w' (· < w'.heap.size) u (allP ls) ∧ Below w.heap.size w w' := by
  obtain ⟨A, c, rfl, hc1, hc2, hc3⟩ := hv.1.open_
  unfold maxLen at hc2
  obtain ⟨i0, hi, hz0, hz1, hz2⟩ := info_parts infoVer
  have HI := Lib.hid hi
  have HZ0 := Lib.hid hz0
  have HZ1 := Lib.hid hz1
  have HZ2 := Lib.hid hz2
  have HVS := Lib.hid hv
  clear hv hi hz0 hz1 hz2
  go_enter Tryz.func20, Tryz.ntmps20
  go_wp2_with fail
  go_loopw [3, 9] (fun o i wr => ∃ k : Nat, i = .int .i64 (k : Int) ∧ k ≤ ls.length ∧ Hid (OwnP wr w.heap.size o (allP (ls.take k))) ∧ Below w.heap.size w wr) (fun _ i _ => ls.length - (intOf i).toNat)
  case atStart => exact ⟨0, rfl, Nat.zero_le _, Lib.hid (World.ownsRow_nil _ _ _ _), Below.of_alloc _⟩
  case round =>
    obtain ⟨k, rfl, hk, HO, hB⟩ := hrel
    obtain ⟨wo, rfl⟩ : ∃ wo : World, wo = wr := ⟨_, rfl⟩
    have hsz := hB.size
    by_cases hlt : k < ls.length
    case neg =>
      have hke : k = ls.length := by omega
      have HKE := Lib.hid hke
      have hlt2 : ¬ (k : Int) < (ls.length : Int) := by omega
      clear hke
      go_wp2_with fail
      go_ret
      refine ⟨_, rfl, ⟨?_, ?_⟩, hB⟩
      · have hA := HO.out
        rw [HKE.out, List.take_of_length_le (Nat.le_refl _)] at hA
        exact (Rd.of_own hA).wide (fun b hb => hb.2)
      · intro p hp
        obtain ⟨q, hq, hpq⟩ := List.mem_flatMap.1 hp
        exact ((HVS.out.below hB).2 q hq).2 p hpq
    case pos =>
      obtain ⟨b, off, rfl, hF, hcl, hx⟩ := RdLL.at_ (HVS.out.below hB) hlt
      have hsn := allP_snoc hlt
      have hle := allP_le ls (k + 1)
      have HSN := Lib.hid hsn
      rw [hsn, List.length_append] at hle
      clear hsn
      generalize ls[k] = p at *
      obtain ⟨pv, ps⟩ := p
      simp only at hcl hx HSN hle
      have HX := Lib.hid hx
      have HLE := Lib.hid hle
      obtain ⟨Ap, cp, rfl, y1, y2, y3⟩ := hx.1.open_
      obtain ⟨Ao, co, rfl, z1, z2, z3⟩ := Rd.open_ (Rd.of_own HO.out)
      clear hx hle y3 z3
      go_wp2_with (at_builtin; refine wpList_append_app wo rfl (.tmp 13) (.tmp 14) 22 rfl w.heap.size 61 i0 _ 9 88 Tryz.underlying22 HI.out HZ0.out HZ1.out HZ2.out rfl (by omega) _ (allP (ls.take k)).length (cellsP (allP (ls.take k))) rfl (.inl HO.out) (· < wo.heap.size) _ ps.length (cellsP ps) rfl HX.out.1 (cellsP_one _) (by have := HLE.out; unfold maxLen; omega) (by have := HLE.out; omega) (by omega) ?_; intro v3 w3 _ hO3 hg3 hb3 hv3)
      have hO3' : Hid (OwnP w3 w.heap.size v3 (allP (ls.take (k + 1)))) := Lib.hid (by
        have := hO3 (.inr HO.out)
        unfold OwnP
        rw [HSN.out, List.length_append, cellsP_append]
        exact this)
      clear hO3 hg3 hv3
      go_roundw
      case rel => exact ⟨k + 1, by go_num, by omega, hO3', hB.trans hb3⟩
      case measure => simp [intOf]; omega

/-- the rectangle around versions -/
def boundsF (vs : List Ver) : Rec × Bool := if vs.length = 0 then (⟨0, 0, 0, 0⟩, false) else (bndF vs, true)
def BdOut (vs : List Ver) (w0 : World) (e : Ending) (w : World) : Prop := e = .returned (.tuple #[.agg #[.int .i64 (boundsF vs).1.vf, .int .i64 (boundsF vs).1.vt, .int .i64 (boundsF vs).1.sf, .int .i64 (boundsF vs).1.st], .bool (boundsF vs).2]) ∧ Below w0.heap.size w0 w

set_option maxRecDepth 1000000 in
set_option maxHeartbeats 4000000 in
theorem rBounds_any (t : ByteArray) (v : Value) (ls : List LVP) (w : World) (hv : RdLL w (· < w.heap.size) v ls) (hn : (allP ls).length ≤ 1099511627776) :
    Calls Tryz.prog 19 #[.agg #[.string t, v]] w (BdOut ((allP ls).map (·.2)) w) := by
  obtain ⟨W, hW⟩ : ∃ W, W = ((w.alloc (.cells #[.string t, v] 38)).alloc (.cells #[.int .i64 0, .int .i64 0, .int .i64 0, .int .i64 0] 26)) := ⟨_, rfl⟩
  have hbW : Below w.heap.size w W := by rw [hW]; exact (Below.of_alloc _).alloc (by simp) _
  have hWs : (w.heap.size + 1) < W.heap.size := by rw [hW]; simp
  have hT : W.heap[(w.heap.size + 1)]? = some (.cells #[.int .i64 0, .int .i64 0, .int .i64 0, .int .i64 0] 26 (0, 0)) := by
    rw [hW]
    have := heap_alloc_new (w.alloc (.cells #[.string t, v] 38)) (.cells #[.int .i64 0, .int .i64 0, .int .i64 0, .int .i64 0] 26)
    simpa using this
  have HT := Lib.hid hT
  have HBW := Lib.hid hbW
  have KV := rVersions_any t v ls W (hv.below (hbW)) hn
  obtain ⟨bf, hbf⟩ : ∃ b, b = boundsF ((allP ls).map (·.2)) := ⟨_, rfl⟩
  rw [show BdOut _ w = fun e w2 => e = .returned (.tuple #[.agg #[.int .i64 (boundsF ((allP ls).map (·.2))).1.vf, .int .i64 (boundsF ((allP ls).map (·.2))).1.vt, .int .i64 (boundsF ((allP ls).map (·.2))).1.sf, .int .i64 (boundsF ((allP ls).map (·.2))).1.st], .bool (boundsF ((allP ls).map (·.2))).2]) ∧ Below w.heap.size w w2 from rfl, ← hbf]
  have HBF0 := Lib.hid hbf
  clear hT hbW hbf
  go_enter Tryz.func19, Tryz.ntmps19
  go_wp2_with fail
  rw [← hW]
  clear hW
  (with_reducible refine KV.mono ?_)
  rintro _ w1 ⟨u, rfl, hu, hb⟩
  have HVQ : Hid ((allP ls).map (·.2) = (allP ls).map (·.2)) := Lib.hid rfl
  clear hv hn
  clear KV
  obtain ⟨Au, cu, rfl, x1, x2, x3⟩ := hu.1.open_
  unfold maxLen at x2
  have hb1 : Below w.heap.size w w1 := HBW.out.trans (hb.mono HBW.out.size)
  have hT1 := (hb.block (w.heap.size + 1) (by omega)).trans HT.out
  have hs1 : (w.heap.size + 1) < w1.heap.size := by have := hb.size; omega
  have HB1 := Lib.hid hb1
  have HT1 := Lib.hid hT1
  have HU := Lib.hid hu
  have HS1 := Lib.hid hs1
  clear hb hb1 hT1 hu x3
  by_cases h0 : (allP ls).length = 0
  case pos =>
    have HBF : Hid (bf = (⟨0, 0, 0, 0⟩, false)) := Lib.hid (by rw [HBF0.out]; exact if_pos (by rw [← HVQ.out, List.length_map]; exact h0))
    have h0i : ((allP ls).length : Int) = 0 := by omega
    clear h0
    have q0 : w1.cell? ⟨(w.heap.size + 1), 0, none⟩ = some (.int .i64 0) := cell_of_row w1 _ 0 _ _ _ HT1.out
    have q1 : w1.cell? ⟨(w.heap.size + 1), 1, none⟩ = some (.int .i64 0) := cell_of_row w1 _ 1 _ _ _ HT1.out
    have q2 : w1.cell? ⟨(w.heap.size + 1), 2, none⟩ = some (.int .i64 0) := cell_of_row w1 _ 2 _ _ _ HT1.out
    have q3 : w1.cell? ⟨(w.heap.size + 1), 3, none⟩ = some (.int .i64 0) := cell_of_row w1 _ 3 _ _ _ HT1.out
    have f0 : w1.frozen? ⟨(w.heap.size + 1), 0, none⟩ = false := frozen_of_row w1 _ 0 _ _ HT1.out
    have f1 : w1.frozen? ⟨(w.heap.size + 1), 1, none⟩ = false := frozen_of_row w1 _ 1 _ _ HT1.out
    have f2 : w1.frozen? ⟨(w.heap.size + 1), 2, none⟩ = false := frozen_of_row w1 _ 2 _ _ HT1.out
    have f3 : w1.frozen? ⟨(w.heap.size + 1), 3, none⟩ = false := frozen_of_row w1 _ 3 _ _ HT1.out
    have hZ := four_set HT1.out (.int .i64 0) (.int .i64 0) (.int .i64 0) (.int .i64 0)
    have hZb := four_chg w1 (w.heap.size + 1) (.int .i64 0) (.int .i64 0) (.int .i64 0) (.int .i64 0)
    have HZ9 := Lib.hid hZ
    have HZB := Lib.hid hZb
    clear hZ hZb
    go_wp2_with fail
    generalize ((((w1.setCell ⟨(w.heap.size + 1), 0, none⟩ (.int .i64 0)).setCell ⟨(w.heap.size + 1), 1, none⟩ (.int .i64 0)).setCell ⟨(w.heap.size + 1), 2, none⟩ (.int .i64 0)).setCell ⟨(w.heap.size + 1), 3, none⟩ (.int .i64 0)) = Z at *
    have y0 : Z.cell? ⟨(w.heap.size + 1), 0, none⟩ = some (.int .i64 0) := cell_of_row Z _ 0 _ _ _ HZ9.out
    have y1 : Z.cell? ⟨(w.heap.size + 1), 1, none⟩ = some (.int .i64 0) := cell_of_row Z _ 1 _ _ _ HZ9.out
    have y2 : Z.cell? ⟨(w.heap.size + 1), 2, none⟩ = some (.int .i64 0) := cell_of_row Z _ 2 _ _ _ HZ9.out
    have y3 : Z.cell? ⟨(w.heap.size + 1), 3, none⟩ = some (.int .i64 0) := cell_of_row Z _ 3 _ _ _ HZ9.out
    refine bodyPost_ret (v := .tuple #[.agg #[.int .i64 0, .int .i64 0, .int .i64 0, .int .i64 0], .bool false]) (by simp [results, Tryz.results19, go_sem, y0, y1, y2, y3]) rfl ⟨?_, HB1.out.trans (HZB.out.below HB1.out.size (fun i (hi : i = (w.heap.size + 1)) => by omega))⟩
    rw [HBF.out]
    try rfl
  case neg =>
    have HBF : Hid (bf = (bndF ((allP ls).map (·.2)), true)) := Lib.hid (by rw [HBF0.out, HVQ.out]; exact if_neg (by rw [← HVQ.out, List.length_map]; exact h0))
    have h0i : ¬ ((allP ls).length : Int) = 0 := by omega
    have KB := refAround_any _ (allP ls) w1 HU.out (by omega)
    obtain ⟨⟨r1, r2, r3, r4⟩, hr⟩ : ∃ r, r = bndF ((allP ls).map (·.2)) := ⟨_, rfl⟩
    rw [← hr] at KB HBF
    have KB' : Calls Tryz.prog 33 #[.slice Au (allP ls).length cu] w1 fun e w' => e = .returned (.agg #[.int .i64 r1, .int .i64 r2, .int .i64 r3, .int .i64 r4]) ∧ Below w1.heap.size w1 w' := KB
    clear hr KB
    go_wp2_with fail
    (with_reducible refine KB'.mono ?_)
    rintro _ w2 ⟨rfl, hb2⟩
    have HB2 : Hid (Below w.heap.size w w2) := Lib.hid (HB1.out.trans (hb2.mono HB1.out.size))
    have HT2 := Lib.hid ((hb2.block (w.heap.size + 1) HS1.out).trans HT1.out)
    have hs2 : (w.heap.size + 1) < w2.heap.size := by have := hb2.size; omega
    clear hb2 KB'
    have q0 : w2.cell? ⟨(w.heap.size + 1), 0, none⟩ = some (.int .i64 0) := cell_of_row w2 _ 0 _ _ _ HT2.out
    have q1 : w2.cell? ⟨(w.heap.size + 1), 1, none⟩ = some (.int .i64 0) := cell_of_row w2 _ 1 _ _ _ HT2.out
    have q2 : w2.cell? ⟨(w.heap.size + 1), 2, none⟩ = some (.int .i64 0) := cell_of_row w2 _ 2 _ _ _ HT2.out
    have q3 : w2.cell? ⟨(w.heap.size + 1), 3, none⟩ = some (.int .i64 0) := cell_of_row w2 _ 3 _ _ _ HT2.out
    have f0 : w2.frozen? ⟨(w.heap.size + 1), 0, none⟩ = false := frozen_of_row w2 _ 0 _ _ HT2.out
    have f1 : w2.frozen? ⟨(w.heap.size + 1), 1, none⟩ = false := frozen_of_row w2 _ 1 _ _ HT2.out
    have f2 : w2.frozen? ⟨(w.heap.size + 1), 2, none⟩ = false := frozen_of_row w2 _ 2 _ _ HT2.out
    have f3 : w2.frozen? ⟨(w.heap.size + 1), 3, none⟩ = false := frozen_of_row w2 _ 3 _ _ HT2.out
    have hZ := four_set HT2.out (.int .i64 r1) (.int .i64 r2) (.int .i64 r3) (.int .i64 r4)
    have hZb := four_chg w2 (w.heap.size + 1) (.int .i64 r1) (.int .i64 r2) (.int .i64 r3) (.int .i64 r4)
    have HZ9 := Lib.hid hZ
    have HZB := Lib.hid hZb
    clear hZ hZb
    go_wp2_with fail
    generalize ((((w2.setCell ⟨(w.heap.size + 1), 0, none⟩ (.int .i64 r1)).setCell ⟨(w.heap.size + 1), 1, none⟩ (.int .i64 r2)).setCell ⟨(w.heap.size + 1), 2, none⟩ (.int .i64 r3)).setCell ⟨(w.heap.size + 1), 3, none⟩ (.int .i64 r4)) = Z at *
    have y0 : Z.cell? ⟨(w.heap.size + 1), 0, none⟩ = some (.int .i64 r1) := cell_of_row Z _ 0 _ _ _ HZ9.out
    have y1 : Z.cell? ⟨(w.heap.size + 1), 1, none⟩ = some (.int .i64 r2) := cell_of_row Z _ 1 _ _ _ HZ9.out
    have y2 : Z.cell? ⟨(w.heap.size + 1), 2, none⟩ = some (.int .i64 r3) := cell_of_row Z _ 2 _ _ _ HZ9.out
    have y3 : Z.cell? ⟨(w.heap.size + 1), 3, none⟩ = some (.int .i64 r4) := cell_of_row Z _ 3 _ _ _ HZ9.out
    refine bodyPost_ret (v := .tuple #[.agg #[.int .i64 r1, .int .i64 r2, .int .i64 r3, .int .i64 r4], .bool true]) (by simp [results, Tryz.results19, go_sem, y0, y1, y2, y3]) rfl ⟨?_, HB2.out.trans (HZB.out.below HB2.out.size (fun i (hi : i = (w.heap.size + 1)) => by omega))⟩
    rw [HBF.out]
    try rfl

set_option maxRecDepth 1000000 in
set_option maxHeartbeats 4000000 in
theorem sBounds_any (P : Nat) (t : List UInt8) (cs : List (List Ver)) (w : World) (h : SegAt w P t cs) (hn : cs.flatten.length ≤ 1048576) (hr : ∀ c ∈ cs, ∀ x ∈ c, x.row.length ≤ 12) :
    Calls Tryz.prog 18 #[.pointer (some ⟨P, 0, none⟩)] w (BdOut cs.flatten w) := by
  obtain ⟨W, hW⟩ : ∃ W, W = (w.alloc (.cells #[.int .i64 0, .int .i64 0, .int .i64 0, .int .i64 0] 26)) := ⟨_, rfl⟩
  have hbW : Below w.heap.size w W := by rw [hW]; exact Below.of_alloc _
  have hWs : (w.heap.size) < W.heap.size := by rw [hW]; simp
  have hT : W.heap[(w.heap.size)]? = some (.cells #[.int .i64 0, .int .i64 0, .int .i64 0, .int .i64 0] 26 (0, 0)) := by
    rw [hW]
    exact heap_alloc_new _ _
  have HT := Lib.hid hT
  have HBW := Lib.hid hbW
  have KV := segVersions_any P t cs W (h.below hbW) hn hr
  obtain ⟨bf, hbf⟩ : ∃ b, b = boundsF (cs.flatten) := ⟨_, rfl⟩
  rw [show BdOut _ w = fun e w2 => e = .returned (.tuple #[.agg #[.int .i64 (boundsF (cs.flatten)).1.vf, .int .i64 (boundsF (cs.flatten)).1.vt, .int .i64 (boundsF (cs.flatten)).1.sf, .int .i64 (boundsF (cs.flatten)).1.st], .bool (boundsF (cs.flatten)).2]) ∧ Below w.heap.size w w2 from rfl, ← hbf]
  have HBF0 := Lib.hid hbf
  clear hT hbW hbf
  go_enter Tryz.func18, Tryz.ntmps18
  go_wp2_with fail
  rw [← hW]
  clear hW
  (with_reducible refine KV.mono ?_)
  rintro _ w1 ⟨u, rfl, Q, hu, hQ, hb⟩
  have HVQ : Hid (Q.map (·.2) = cs.flatten) := Lib.hid hQ
  clear h hn hr hQ
  clear KV
  obtain ⟨Au, cu, rfl, x1, x2, x3⟩ := hu.1.open_
  unfold maxLen at x2
  have hb1 : Below w.heap.size w w1 := HBW.out.trans (hb.mono HBW.out.size)
  have hT1 := (hb.block (w.heap.size) (by omega)).trans HT.out
  have hs1 : (w.heap.size) < w1.heap.size := by have := hb.size; omega
  have HB1 := Lib.hid hb1
  have HT1 := Lib.hid hT1
  have HU := Lib.hid hu
  have HS1 := Lib.hid hs1
  clear hb hb1 hT1 hu x3
  by_cases h0 : Q.length = 0
  case pos =>
    have HBF : Hid (bf = (⟨0, 0, 0, 0⟩, false)) := Lib.hid (by rw [HBF0.out]; exact if_pos (by rw [← HVQ.out, List.length_map]; exact h0))
    have h0i : (Q.length : Int) = 0 := by omega
    clear h0
    have q0 : w1.cell? ⟨(w.heap.size), 0, none⟩ = some (.int .i64 0) := cell_of_row w1 _ 0 _ _ _ HT1.out
    have q1 : w1.cell? ⟨(w.heap.size), 1, none⟩ = some (.int .i64 0) := cell_of_row w1 _ 1 _ _ _ HT1.out
    have q2 : w1.cell? ⟨(w.heap.size), 2, none⟩ = some (.int .i64 0) := cell_of_row w1 _ 2 _ _ _ HT1.out
    have q3 : w1.cell? ⟨(w.heap.size), 3, none⟩ = some (.int .i64 0) := cell_of_row w1 _ 3 _ _ _ HT1.out
    have f0 : w1.frozen? ⟨(w.heap.size), 0, none⟩ = false := frozen_of_row w1 _ 0 _ _ HT1.out
    have f1 : w1.frozen? ⟨(w.heap.size), 1, none⟩ = false := frozen_of_row w1 _ 1 _ _ HT1.out
    have f2 : w1.frozen? ⟨(w.heap.size), 2, none⟩ = false := frozen_of_row w1 _ 2 _ _ HT1.out
    have f3 : w1.frozen? ⟨(w.heap.size), 3, none⟩ = false := frozen_of_row w1 _ 3 _ _ HT1.out
    have hZ := four_set HT1.out (.int .i64 0) (.int .i64 0) (.int .i64 0) (.int .i64 0)
    have hZb := four_chg w1 (w.heap.size) (.int .i64 0) (.int .i64 0) (.int .i64 0) (.int .i64 0)
    have HZ9 := Lib.hid hZ
    have HZB := Lib.hid hZb
    clear hZ hZb
    go_wp2_with fail
    generalize ((((w1.setCell ⟨(w.heap.size), 0, none⟩ (.int .i64 0)).setCell ⟨(w.heap.size), 1, none⟩ (.int .i64 0)).setCell ⟨(w.heap.size), 2, none⟩ (.int .i64 0)).setCell ⟨(w.heap.size), 3, none⟩ (.int .i64 0)) = Z at *
    have y0 : Z.cell? ⟨(w.heap.size), 0, none⟩ = some (.int .i64 0) := cell_of_row Z _ 0 _ _ _ HZ9.out
    have y1 : Z.cell? ⟨(w.heap.size), 1, none⟩ = some (.int .i64 0) := cell_of_row Z _ 1 _ _ _ HZ9.out
    have y2 : Z.cell? ⟨(w.heap.size), 2, none⟩ = some (.int .i64 0) := cell_of_row Z _ 2 _ _ _ HZ9.out
    have y3 : Z.cell? ⟨(w.heap.size), 3, none⟩ = some (.int .i64 0) := cell_of_row Z _ 3 _ _ _ HZ9.out
    refine bodyPost_ret (v := .tuple #[.agg #[.int .i64 0, .int .i64 0, .int .i64 0, .int .i64 0], .bool false]) (by simp [results, Tryz.results18, go_sem, y0, y1, y2, y3]) rfl ⟨?_, HB1.out.trans (HZB.out.below HB1.out.size (fun i (hi : i = (w.heap.size)) => by omega))⟩
    rw [HBF.out]
    try rfl
  case neg =>
    have HBF : Hid (bf = (bndF (Q.map (·.2)), true)) := Lib.hid (by rw [HBF0.out, HVQ.out]; exact if_neg (by rw [← HVQ.out, List.length_map]; exact h0))
    have h0i : ¬ (Q.length : Int) = 0 := by omega
    have KB := bounds_any _ Q w1 HU.out (by omega)
    obtain ⟨⟨r1, r2, r3, r4⟩, hr⟩ : ∃ r, r = bndF (Q.map (·.2)) := ⟨_, rfl⟩
    rw [← hr] at KB HBF
    have KB' : Calls Tryz.prog 50 #[.slice Au Q.length cu] w1 fun e w' => e = .returned (.agg #[.int .i64 r1, .int .i64 r2, .int .i64 r3, .int .i64 r4]) ∧ Below w1.heap.size w1 w' := KB
    clear hr KB
    go_wp2_with fail
    (with_reducible refine KB'.mono ?_)
    rintro _ w2 ⟨rfl, hb2⟩
    have HB2 : Hid (Below w.heap.size w w2) := Lib.hid (HB1.out.trans (hb2.mono HB1.out.size))
    have HT2 := Lib.hid ((hb2.block (w.heap.size) HS1.out).trans HT1.out)
    have hs2 : (w.heap.size) < w2.heap.size := by have := hb2.size; omega
    clear hb2 KB'
    have q0 : w2.cell? ⟨(w.heap.size), 0, none⟩ = some (.int .i64 0) := cell_of_row w2 _ 0 _ _ _ HT2.out
    have q1 : w2.cell? ⟨(w.heap.size), 1, none⟩ = some (.int .i64 0) := cell_of_row w2 _ 1 _ _ _ HT2.out
    have q2 : w2.cell? ⟨(w.heap.size), 2, none⟩ = some (.int .i64 0) := cell_of_row w2 _ 2 _ _ _ HT2.out
    have q3 : w2.cell? ⟨(w.heap.size), 3, none⟩ = some (.int .i64 0) := cell_of_row w2 _ 3 _ _ _ HT2.out
    have f0 : w2.frozen? ⟨(w.heap.size), 0, none⟩ = false := frozen_of_row w2 _ 0 _ _ HT2.out
    have f1 : w2.frozen? ⟨(w.heap.size), 1, none⟩ = false := frozen_of_row w2 _ 1 _ _ HT2.out
    have f2 : w2.frozen? ⟨(w.heap.size), 2, none⟩ = false := frozen_of_row w2 _ 2 _ _ HT2.out
    have f3 : w2.frozen? ⟨(w.heap.size), 3, none⟩ = false := frozen_of_row w2 _ 3 _ _ HT2.out
    have hZ := four_set HT2.out (.int .i64 r1) (.int .i64 r2) (.int .i64 r3) (.int .i64 r4)
    have hZb := four_chg w2 (w.heap.size) (.int .i64 r1) (.int .i64 r2) (.int .i64 r3) (.int .i64 r4)
    have HZ9 := Lib.hid hZ
    have HZB := Lib.hid hZb
    clear hZ hZb
    go_wp2_with fail
    generalize ((((w2.setCell ⟨(w.heap.size), 0, none⟩ (.int .i64 r1)).setCell ⟨(w.heap.size), 1, none⟩ (.int .i64 r2)).setCell ⟨(w.heap.size), 2, none⟩ (.int .i64 r3)).setCell ⟨(w.heap.size), 3, none⟩ (.int .i64 r4)) = Z at *
    have y0 : Z.cell? ⟨(w.heap.size), 0, none⟩ = some (.int .i64 r1) := cell_of_row Z _ 0 _ _ _ HZ9.out
    have y1 : Z.cell? ⟨(w.heap.size), 1, none⟩ = some (.int .i64 r2) := cell_of_row Z _ 1 _ _ _ HZ9.out
    have y2 : Z.cell? ⟨(w.heap.size), 2, none⟩ = some (.int .i64 r3) := cell_of_row Z _ 2 _ _ _ HZ9.out
    have y3 : Z.cell? ⟨(w.heap.size), 3, none⟩ = some (.int .i64 r4) := cell_of_row Z _ 3 _ _ _ HZ9.out
    refine bodyPost_ret (v := .tuple #[.agg #[.int .i64 r1, .int .i64 r2, .int .i64 r3, .int .i64 r4], .bool true]) (by simp [results, Tryz.results18, go_sem, y0, y1, y2, y3]) rfl ⟨?_, HB2.out.trans (HZB.out.below HB2.out.size (fun i (hi : i = (w.heap.size)) => by omega))⟩
    rw [HBF.out]
    try rfl
end Go.Proofs.YtacjiocffbgkkaaGreat
