/-
 TlA
-/
import Derived.Test.YtbfdegkickjbpaaGreatTRlA
import Derived.Test.YtbfdegkickjbpaaGreatTRwE
import Derived.Test.YtbfdegkickjbpaaGreatTDcJ
import Derived.Test.YtbfdegkickjbpaaGreatTTnC
import Derived.Test.YtbfdegkickjbpaaGreatTSmZ
import Derived.Test.YtbfdegkickjbpaaGreatTWkY
namespace Go.Proofs.YtbfdegkickjbpaaGreat
open Go.RowKit Go.Lib Go.IntWalk Go.Sort Go.Shelf
def DecNO (k : Int) (w0 : World) (e : Ending) (w : World) : Prop := ∃ (a1 a2 a3 a4 a5 a6 : Option Addr) (c1 c2 c3 c4 c5 c6 : Nat), e = .returned (.tuple #[.agg #[.int .i64 0, .int .i64 0, .int .i64 0, .int .i64 0, .slice a1 0 c1, .slice a2 0 c2, .slice a3 0 c3, .slice a4 0 c4, .slice a5 0 c5, .slice a6 0 c6], .int .i64 k]) ∧ Below w0.heap.size w0 w
theorem decNone (v : Value) (l : List UInt8) (k : Int) (w : World) (hv : RdB w (· < w.heap.size) v l) (h : decCm l = (RCm.none_, k)) : Calls Tryz.prog 17 #[v] w (DecNO k w) := by
 refine (decode_any v _ w hv).mono ?_
 rintro _ w' ⟨c, rfl, h1, _, hb⟩
 rw [h] at h1 ⊢
 obtain ⟨dtx, dtm, dwa, dfi, a1, c1, dents, a2, c2, ddels, a3, c3, dpla, a4, c4, drel, a5, c5, dpol, a6, c6, dhor⟩ := c
 simp only [RCm.er, RCm.none_, RCm.mk.injEq, true_and, List.map_eq_nil_iff] at h1
 obtain ⟨rfl, rfl, rfl, rfl, rfl, rfl, rfl, rfl, rfl, rfl⟩ := h1
 exact ⟨a1, a2, a3, a4, a5, a6, c1, c2, c3, c4, c5, c6, rfl, hb⟩
set_option maxRecDepth 1000000 in
set_option maxHeartbeats 16000000 in
theorem lawRTorn_any (c : RCm) (y : Int) (w : World) (hc : c.is w (· < w.heap.size)) (hlm : c.lim w) (hy : 0 ≤ y ∧ y ≤ 65535) : Calls Tryz.prog 6 #[.agg c.enc.toArray, .int .u16 y] w fun e w' => e = .returned (.bool true) ∧ Below w.heap.size w w' := by
 have K1 := Lib.hid (fun (V : World) (hV : Below w.heap.size w V) => small_any c V (hc.below hV) (hlm.below hV))
 have K2 := Lib.hid (fun (V : World) (hV : Below w.heap.size w V) => recEncode_any c V (hc.below hV) (hlm.below hV))
 obtain ⟨C, hC⟩ : ∃ C, C = c := ⟨_, rfl⟩
 have K2 : Hid (∀ V, Below w.heap.size w V → Calls Tryz.prog 14 #[.agg c.enc.toArray] V (EncCO C V)) := by rw [hC]; exact K2
 clear hc hlm hC
 obtain ⟨tx, tm, wa, fi, eA, eC, ents, dA, dC, dels, pA, pC, pla, rA, rC, rel, qA, qC, pol, hA, hC, hor⟩ := c
 have K1 : Hid (∀ V, Below w.heap.size w V → Calls Tryz.prog 10 #[.agg #[.int .i64 tx, .int .i64 tm, .int .i64 wa, .int .i64 fi, .slice eA ents.length eC, .slice dA dels.length dC, .slice pA pla.length pC, .slice rA rel.length rC, .slice qA pol.length qC, .slice hA hor.length hC]] V (BoolO V)) := K1
 have K2 : Hid (∀ V, Below w.heap.size w V → Calls Tryz.prog 14 #[.agg #[.int .i64 tx, .int .i64 tm, .int .i64 wa, .int .i64 fi, .slice eA ents.length eC, .slice dA dels.length dC, .slice pA pla.length pC, .slice rA rel.length rC, .slice qA pol.length qC, .slice hA hor.length hC]] V (EncCO C V)) := K2
 show Calls Tryz.prog 6 #[.agg #[.int .i64 tx, .int .i64 tm, .int .i64 wa, .int .i64 fi, .slice eA ents.length eC, .slice dA dels.length dC, .slice pA pla.length pC, .slice rA rel.length rC, .slice qA pol.length qC, .slice hA hor.length hC], .int .u16 y] w _
 obtain ⟨W0, hW0⟩ : ∃ W, W = w.alloc (.cells #[.int .i64 tx, .int .i64 tm, .int .i64 wa, .int .i64 fi, .slice eA ents.length eC, .slice dA dels.length dC, .slice pA pla.length pC, .slice rA rel.length rC, .slice qA pol.length qC, .slice hA hor.length hC] 29) := ⟨_, rfl⟩
 have hbW : Below w.heap.size w W0 := by rw [hW0]; exact Below.of_alloc _
 have HBW := Lib.hid hbW
 have HBL : Hid (w.heap.size < W0.heap.size) := Lib.hid (by rw [hW0]; simp)
 have HT : Hid (W0.heap[w.heap.size]? = some (.cells #[.int .i64 tx, .int .i64 tm, .int .i64 wa, .int .i64 fi, .slice eA ents.length eC, .slice dA dels.length dC, .slice pA pla.length pC, .slice rA rel.length rC, .slice qA pol.length qC, .slice hA hor.length hC] 29 (0, 0))) := Lib.hid (by rw [hW0]; exact heap_alloc_new _ _)
 have hT := HT.out
 have c0 : W0.cell? ⟨w.heap.size, 0, none⟩ = some (.int .i64 tx) := cell_of_row W0 _ 0 _ _ _ hT
 have c1 : W0.cell? ⟨w.heap.size, 1, none⟩ = some (.int .i64 tm) := cell_of_row W0 _ 1 _ _ _ hT
 have c2 : W0.cell? ⟨w.heap.size, 2, none⟩ = some (.int .i64 wa) := cell_of_row W0 _ 2 _ _ _ hT
 have c3 : W0.cell? ⟨w.heap.size, 3, none⟩ = some (.int .i64 fi) := cell_of_row W0 _ 3 _ _ _ hT
 have c4 : W0.cell? ⟨w.heap.size, 4, none⟩ = some (.slice eA ents.length eC) := cell_of_row W0 _ 4 _ _ _ hT
 have c5 : W0.cell? ⟨w.heap.size, 5, none⟩ = some (.slice dA dels.length dC) := cell_of_row W0 _ 5 _ _ _ hT
 have c6 : W0.cell? ⟨w.heap.size, 6, none⟩ = some (.slice pA pla.length pC) := cell_of_row W0 _ 6 _ _ _ hT
 have c7 : W0.cell? ⟨w.heap.size, 7, none⟩ = some (.slice rA rel.length rC) := cell_of_row W0 _ 7 _ _ _ hT
 have c8 : W0.cell? ⟨w.heap.size, 8, none⟩ = some (.slice qA pol.length qC) := cell_of_row W0 _ 8 _ _ _ hT
 have c9 : W0.cell? ⟨w.heap.size, 9, none⟩ = some (.slice hA hor.length hC) := cell_of_row W0 _ 9 _ _ _ hT
 clear hT hbW
 go_enter Tryz.func6, Tryz.ntmps6
 go_wp2_with fail
 rw [← hW0]
 clear hW0
 (with_reducible refine (K1.out _ HBW.out).mono ?_)
 rintro _ y1 ⟨r, rfl, hb1⟩
 have hT := (hb1.block _ HBL.out).trans HT.out
 have HB1 := Lib.hid (HBW.out.trans (hb1.mono HBW.out.size))
 have HBL1 : Hid (w.heap.size < y1.heap.size) := Lib.hid (Nat.lt_of_lt_of_le HBL.out hb1.size)
 have HT1 := Lib.hid hT
 clear c0 c1 c2 c3 c4 c5 c6 c7 c8 c9 hb1 K1 HBW HT HBL
 have c0 : y1.cell? ⟨w.heap.size, 0, none⟩ = some (.int .i64 tx) := cell_of_row y1 _ 0 _ _ _ hT
 have c1 : y1.cell? ⟨w.heap.size, 1, none⟩ = some (.int .i64 tm) := cell_of_row y1 _ 1 _ _ _ hT
 have c2 : y1.cell? ⟨w.heap.size, 2, none⟩ = some (.int .i64 wa) := cell_of_row y1 _ 2 _ _ _ hT
 have c3 : y1.cell? ⟨w.heap.size, 3, none⟩ = some (.int .i64 fi) := cell_of_row y1 _ 3 _ _ _ hT
 have c4 : y1.cell? ⟨w.heap.size, 4, none⟩ = some (.slice eA ents.length eC) := cell_of_row y1 _ 4 _ _ _ hT
 have c5 : y1.cell? ⟨w.heap.size, 5, none⟩ = some (.slice dA dels.length dC) := cell_of_row y1 _ 5 _ _ _ hT
 have c6 : y1.cell? ⟨w.heap.size, 6, none⟩ = some (.slice pA pla.length pC) := cell_of_row y1 _ 6 _ _ _ hT
 have c7 : y1.cell? ⟨w.heap.size, 7, none⟩ = some (.slice rA rel.length rC) := cell_of_row y1 _ 7 _ _ _ hT
 have c8 : y1.cell? ⟨w.heap.size, 8, none⟩ = some (.slice qA pol.length qC) := cell_of_row y1 _ 8 _ _ _ hT
 have c9 : y1.cell? ⟨w.heap.size, 9, none⟩ = some (.slice hA hor.length hC) := cell_of_row y1 _ 9 _ _ _ hT
 clear hT
 cases r
 case false =>
  go_wp2_with fail
  (with_reducible refine (works35g _).mono ?_)
  rintro _ y4 ⟨rfl, hb4⟩
  go_wp2_with fail
  go_ret
  exact ⟨rfl, HB1.out.trans (hb4.mono HB1.out.size)⟩
 case true =>
  go_wp2_with fail
  (with_reducible refine (K2.out _ HB1.out).mono ?_)
  rintro _ y2 ⟨u, rfl, hu, hb2⟩
  have hT := (hb2.block _ HBL1.out).trans HT1.out
  have HB2 := Lib.hid (HB1.out.trans (hb2.mono HB1.out.size))
  have HU : Hid (RdB y2 (· < y2.heap.size) u (outC C)) := Lib.hid (hu.wide (fun b hb => hb.2))
  obtain ⟨A1, c1, rfl, x1, x2, x3⟩ := hu.open_
  unfold maxLen at x2
  clear c0 c2 c3 c4 c5 c6 c7 c8 c9 hb2 hu x3
  obtain ⟨k, hk⟩ : ∃ k, k = encCE C := ⟨_, rfl⟩
  obtain ⟨L, hL⟩ : ∃ L, L = outC C := ⟨_, rfl⟩
  rw [← hk]
  rw [← hL] at x1 HU
  simp only [← hL]
  have HK := Lib.hid hk
  have HLL := Lib.hid hL
  clear hk hL
  by_cases he : k = 0
  case neg =>
   have hL0 : L = [] := by rw [HLL.out]; unfold outC; rw [← HK.out, if_neg he]
   subst hL0
   have hbn : (k != 0) = true := by simpa using he
   go_wp2_with fail
   (with_reducible refine (works35g y2).mono ?_)
   rintro _ y5 ⟨rfl, hb5⟩
   go_wp2_with fail
   go_ret
   exact ⟨by simp, HB2.out.trans (hb5.mono HB2.out.size)⟩
  case pos =>
   subst he
   have hL1 : L = encC C := by rw [HLL.out]; unfold outC; rw [← HK.out, if_pos rfl]
   obtain ⟨hck, hle⟩ : checkF C = 0 ∧ (encC C).length ≤ 1048576 := by
    have h := HK.out
    unfold encCE at h
    by_cases h1 : checkF C = 0
    ·rw [if_neg (fun g => g h1)] at h
     refine ⟨h1, ?_⟩
     by_cases h2 : 1048576 < (encC C).length
     ·rw [if_pos h2] at h; exact absurd h (by decide)
     ·omega
    ·rw [if_pos h1] at h; exact absurd h.symm h1
   rw [← hL1] at hle
   have hrd : rdCm L (0, 0) = (C.er, (L.length : Int), 0) := by rw [hL1]; exact rdCm_enc hck (by rw [← hL1]; exact hle)
   have l1 : 0 < L.length := by
    have g := (rd1_Cm.mon L (0, 0) (by rw [hrd])).2.1
    rw [hrd] at g
    simp only at g
    omega
   have hT : ∀ m, m < L.length → decCm (L.take m) = (RCm.none_, 2) := fun m hm => decCm_torn hle (by rw [hrd]) hm
   have HT9 := Lib.hid hT
   clear hT hrd hck hL1
   have hne : ¬ L.length = 0 := by omega
   have hk0 : 0 ≤ y % (L.length : Int) := Int.emod_nonneg _ (by omega)
   have hk1 : y % (L.length : Int) < L.length := Int.emod_lt_of_pos _ (by omega)
   have hk2 : y % (L.length : Int) ≤ (c1 : Int) := by omega
   obtain ⟨b, off, rfl, _, _⟩ := bytes_at HU.out l1
   have hsub : RdB y2 (· < y2.heap.size) (.slice (some ⟨b, off, none⟩) (y % (L.length : Int)).toNat c1) (L.take (y % (L.length : Int)).toNat) := by
    have := HU.out.sub (o := 0) (k := (y % (L.length : Int)).toNat) (c' := c1) (by omega) (by omega) (Nat.le_refl _) l1
    rw [List.drop_zero] at this
    exact this
   have KO := decNone _ _ 2 y2 hsub (HT9.out (y % (L.length : Int)).toNat (by omega))
   clear hsub
   go_wp2_with fail
   (with_reducible refine KO.mono ?_)
   rintro _ y3 ⟨deA, ddA, dpA, drA, dqA, dhA, deC, ddC, dpC, drC, dqC, dhC, rfl, hb3⟩
   obtain ⟨y9, hy9⟩ : ∃ V, V = y3.alloc (.cells #[.int .i64 0, .int .i64 0, .int .i64 0, .int .i64 0, .slice deA 0 deC, .slice ddA 0 ddC, .slice dpA 0 dpC, .slice drA 0 drC, .slice dqA 0 dqC, .slice dhA 0 dhC] 29) := ⟨_, rfl⟩
   have hT9 : y9.heap[y3.heap.size]? = some (.cells #[.int .i64 0, .int .i64 0, .int .i64 0, .int .i64 0, .slice deA 0 deC, .slice ddA 0 ddC, .slice dpA 0 dpC, .slice drA 0 drC, .slice dqA 0 dqC, .slice dhA 0 dhC] 29 (0, 0)) := by rw [hy9]; exact heap_alloc_new _ _
   have hb9 : Below y3.heap.size y3 y9 := by rw [hy9]; exact Below.of_alloc _
   have hb39 := hb3.trans (hb9.mono hb3.size)
   have HB3 : Hid (Below w.heap.size w y9) := Lib.hid (HB2.out.trans (hb39.mono HB2.out.size))
   have HY9 := Lib.hid hy9
   have HT9b := Lib.hid hT9
   clear hb3 hb9 hb39 KO hy9 hT9
   have KS := nilSame deA ddA dpA drA dqA dhA deC ddC dpC drC dqC dhC y9
   go_upto_region 7 with (fail)
   rw [← HY9.out]
   clear HY9
   have k0 : y9.cell? ⟨y3.heap.size, 0, none⟩ = some (.int .i64 0) := cell_of_row y9 _ 0 _ _ _ HT9b.out
   have k1 : y9.cell? ⟨y3.heap.size, 1, none⟩ = some (.int .i64 0) := cell_of_row y9 _ 1 _ _ _ HT9b.out
   have k2 : y9.cell? ⟨y3.heap.size, 2, none⟩ = some (.int .i64 0) := cell_of_row y9 _ 2 _ _ _ HT9b.out
   have k3 : y9.cell? ⟨y3.heap.size, 3, none⟩ = some (.int .i64 0) := cell_of_row y9 _ 3 _ _ _ HT9b.out
   have k4 : y9.cell? ⟨y3.heap.size, 4, none⟩ = some (.slice deA 0 deC) := cell_of_row y9 _ 4 _ _ _ HT9b.out
   have k5 : y9.cell? ⟨y3.heap.size, 5, none⟩ = some (.slice ddA 0 ddC) := cell_of_row y9 _ 5 _ _ _ HT9b.out
   have k6 : y9.cell? ⟨y3.heap.size, 6, none⟩ = some (.slice dpA 0 dpC) := cell_of_row y9 _ 6 _ _ _ HT9b.out
   have k7 : y9.cell? ⟨y3.heap.size, 7, none⟩ = some (.slice drA 0 drC) := cell_of_row y9 _ 7 _ _ _ HT9b.out
   have k8 : y9.cell? ⟨y3.heap.size, 8, none⟩ = some (.slice dqA 0 dqC) := cell_of_row y9 _ 8 _ _ _ HT9b.out
   have k9 : y9.cell? ⟨y3.heap.size, 9, none⟩ = some (.slice dhA 0 dhC) := cell_of_row y9 _ 9 _ _ _ HT9b.out
   go_wp2_with fail
   (with_reducible refine KS.mono ?_)
   rintro _ y4 ⟨rfl, hb4⟩
   have HB4 : Hid (Below w.heap.size w y4) := Lib.hid (HB3.out.trans (hb4.mono HB3.out.size))
   clear hb4 KS
   go_wp2_with fail
   (with_reducible refine (works35g y4).mono ?_)
   rintro _ y5 ⟨rfl, hb5⟩
   go_wp2_with fail
   go_ret
   exact ⟨rfl, HB4.out.trans (hb5.mono HB4.out.size)⟩
end Go.Proofs.YtbfdegkickjbpaaGreat
