/-
 RlB
-/
import Derived.Test.YtbfdegkickjbpaaGreatRRpC
namespace Go.Proofs.YtbfdegkickjbpaaGreat
open Go.RowKit Go.Lib Go.IntWalk Go.Sort Go.Shelf
set_option maxRecDepth 1000000 in
set_option maxHeartbeats 16000000 in
theorem lawREncode_any (c : RCm) (w : World) (hc : c.is w (· < w.heap.size)) (hlm : c.lim w) : Calls Tryz.prog 4 #[.agg c.enc.toArray] w fun e w' => e = .returned (.bool true) ∧ Below w.heap.size w w' := by
 have K1 := Lib.hid (fun (V : World) (hV : Below w.heap.size w V) => small_any c V (hc.below hV) (hlm.below hV))
 have K2 := Lib.hid (fun (V : World) (hV : Below w.heap.size w V) => recEncode_any c V (hc.below hV) (hlm.below hV))
 have K3 := Lib.hid (fun (V : World) (hV : Below w.heap.size w V) => refEncode_any c V (hc.below hV) (hlm.below hV))
 obtain ⟨C, hC⟩ : ∃ C, C = c := ⟨_, rfl⟩
 have K2 : Hid (∀ V, Below w.heap.size w V → Calls Tryz.prog 14 #[.agg c.enc.toArray] V (EncCO C V)) := by rw [hC]; exact K2
 have K3 : Hid (∀ V, Below w.heap.size w V → Calls Tryz.prog 15 #[.agg c.enc.toArray] V (EncCO C V)) := by rw [hC]; exact K3
 clear hc hlm hC
 obtain ⟨tx, tm, wa, fi, eA, eC, ents, dA, dC, dels, pA, pC, pla, rA, rC, rel, qA, qC, pol, hA, hC, hor⟩ := c
 have K1 : Hid (∀ V, Below w.heap.size w V → Calls Tryz.prog 10 #[.agg #[.int .i64 tx, .int .i64 tm, .int .i64 wa, .int .i64 fi, .slice eA ents.length eC, .slice dA dels.length dC, .slice pA pla.length pC, .slice rA rel.length rC, .slice qA pol.length qC, .slice hA hor.length hC]] V (BoolO V)) := K1
 have K2 : Hid (∀ V, Below w.heap.size w V → Calls Tryz.prog 14 #[.agg #[.int .i64 tx, .int .i64 tm, .int .i64 wa, .int .i64 fi, .slice eA ents.length eC, .slice dA dels.length dC, .slice pA pla.length pC, .slice rA rel.length rC, .slice qA pol.length qC, .slice hA hor.length hC]] V (EncCO C V)) := K2
 have K3 : Hid (∀ V, Below w.heap.size w V → Calls Tryz.prog 15 #[.agg #[.int .i64 tx, .int .i64 tm, .int .i64 wa, .int .i64 fi, .slice eA ents.length eC, .slice dA dels.length dC, .slice pA pla.length pC, .slice rA rel.length rC, .slice qA pol.length qC, .slice hA hor.length hC]] V (EncCO C V)) := K3
 show Calls Tryz.prog 4 #[.agg #[.int .i64 tx, .int .i64 tm, .int .i64 wa, .int .i64 fi, .slice eA ents.length eC, .slice dA dels.length dC, .slice pA pla.length pC, .slice rA rel.length rC, .slice qA pol.length qC, .slice hA hor.length hC]] w _
 obtain ⟨W0, hW0⟩ : ∃ W, W = w.alloc (.cells #[.int .i64 tx, .int .i64 tm, .int .i64 wa, .int .i64 fi, .slice eA ents.length eC, .slice dA dels.length dC, .slice pA pla.length pC, .slice rA rel.length rC, .slice qA pol.length qC, .slice hA hor.length hC] 29) := ⟨_, rfl⟩
 have hbW : Below w.heap.size w W0 := by rw [hW0]; exact Below.of_alloc _
 have HBW := Lib.hid hbW
 have HBL : Hid (w.heap.size < W0.heap.size) := Lib.hid (by rw [hW0]; simp)
 have HT : Hid (W0.heap[w.heap.size]? = some (.cells #[.int .i64 tx, .int .i64 tm, .int .i64 wa, .int .i64 fi, .slice eA ents.length eC, .slice dA dels.length dC, .slice pA pla.length pC, .slice rA rel.length rC, .slice qA pol.length qC, .slice hA hor.length hC] 29 (0, 0))) := Lib.hid (by rw [hW0]; exact heap_alloc_new _ _)
 have hT := HT.out
 have c0 : W0.cell? ⟨w.heap.size, 0, none⟩ = some (.int .i64 tx) := cell_of_row W0 _ 0 _ _ _ hT
 have c1 : W0.cell? ⟨w.heap.size, 1, none⟩ = some (.int .i64 tm) := cell_of_row W0 _ 1 _ _ _ hT
 have c2 : W0.cell? ⟨w.heap.size, 2, none⟩ = some (.int .i64 wa) := cell_of_row W0 _ 2 _ _ _ hT
 have c3 : W0.cell? ⟨w.heap.size, 3, none⟩ = some (.int .i64 fi) := cell_of_row W0 _ 3 _ _ _ hT
 have c4 : W0.cell? ⟨w.heap.size, 4, none⟩ = some (.slice eA ents.length eC) := cell_of_row W0 _ 4 _ _ _ hT
 have c5 : W0.cell? ⟨w.heap.size, 5, none⟩ = some (.slice dA dels.length dC) := cell_of_row W0 _ 5 _ _ _ hT
 have c6 : W0.cell? ⟨w.heap.size, 6, none⟩ = some (.slice pA pla.length pC) := cell_of_row W0 _ 6 _ _ _ hT
 have c7 : W0.cell? ⟨w.heap.size, 7, none⟩ = some (.slice rA rel.length rC) := cell_of_row W0 _ 7 _ _ _ hT
 have c8 : W0.cell? ⟨w.heap.size, 8, none⟩ = some (.slice qA pol.length qC) := cell_of_row W0 _ 8 _ _ _ hT
 have c9 : W0.cell? ⟨w.heap.size, 9, none⟩ = some (.slice hA hor.length hC) := cell_of_row W0 _ 9 _ _ _ hT
 clear hT hbW
 go_enter Tryz.func4, Tryz.ntmps4
 go_wp2_with fail
 rw [← hW0]
 clear hW0
 (with_reducible refine (K1.out _ HBW.out).mono ?_)
 rintro _ y1 ⟨r, rfl, hb1⟩
 have hT := (hb1.block _ HBL.out).trans HT.out
 have HB1 := Lib.hid (HBW.out.trans (hb1.mono HBW.out.size))
 have HBL1 : Hid (w.heap.size < y1.heap.size) := Lib.hid (Nat.lt_of_lt_of_le HBL.out hb1.size)
 have HT1 := Lib.hid hT
 clear c0 c1 c2 c3 c4 c5 c6 c7 c8 c9 hb1 K1 HBW HT HBL
 have c0 : y1.cell? ⟨w.heap.size, 0, none⟩ = some (.int .i64 tx) := cell_of_row y1 _ 0 _ _ _ hT
 have c1 : y1.cell? ⟨w.heap.size, 1, none⟩ = some (.int .i64 tm) := cell_of_row y1 _ 1 _ _ _ hT
 have c2 : y1.cell? ⟨w.heap.size, 2, none⟩ = some (.int .i64 wa) := cell_of_row y1 _ 2 _ _ _ hT
 have c3 : y1.cell? ⟨w.heap.size, 3, none⟩ = some (.int .i64 fi) := cell_of_row y1 _ 3 _ _ _ hT
 have c4 : y1.cell? ⟨w.heap.size, 4, none⟩ = some (.slice eA ents.length eC) := cell_of_row y1 _ 4 _ _ _ hT
 have c5 : y1.cell? ⟨w.heap.size, 5, none⟩ = some (.slice dA dels.length dC) := cell_of_row y1 _ 5 _ _ _ hT
 have c6 : y1.cell? ⟨w.heap.size, 6, none⟩ = some (.slice pA pla.length pC) := cell_of_row y1 _ 6 _ _ _ hT
 have c7 : y1.cell? ⟨w.heap.size, 7, none⟩ = some (.slice rA rel.length rC) := cell_of_row y1 _ 7 _ _ _ hT
 have c8 : y1.cell? ⟨w.heap.size, 8, none⟩ = some (.slice qA pol.length qC) := cell_of_row y1 _ 8 _ _ _ hT
 have c9 : y1.cell? ⟨w.heap.size, 9, none⟩ = some (.slice hA hor.length hC) := cell_of_row y1 _ 9 _ _ _ hT
 clear hT
 cases r
 case false =>
  go_wp2_with fail
  (with_reducible refine (works35_any _).mono ?_)
  rintro _ y4 ⟨rfl, hb4⟩
  go_wp2_with fail
  go_ret
  exact ⟨rfl, HB1.out.trans (hb4.mono HB1.out.size)⟩
 case true =>
  go_wp2_with fail
  (with_reducible refine (K2.out _ HB1.out).mono ?_)
  rintro _ y2 ⟨u, rfl, hu, hb2⟩
  have hT := (hb2.block _ HBL1.out).trans HT1.out
  have HB2 := Lib.hid (HB1.out.trans (hb2.mono HB1.out.size))
  have HU : Hid (RdB y2 (· < y2.heap.size) u (outC C)) := Lib.hid (hu.wide (fun b hb => hb.2))
  clear c0 c1 c2 c3 c4 c5 c6 c7 c8 c9 hb2 hu
  have c0 : y2.cell? ⟨w.heap.size, 0, none⟩ = some (.int .i64 tx) := cell_of_row y2 _ 0 _ _ _ hT
  have c1 : y2.cell? ⟨w.heap.size, 1, none⟩ = some (.int .i64 tm) := cell_of_row y2 _ 1 _ _ _ hT
  have c2 : y2.cell? ⟨w.heap.size, 2, none⟩ = some (.int .i64 wa) := cell_of_row y2 _ 2 _ _ _ hT
  have c3 : y2.cell? ⟨w.heap.size, 3, none⟩ = some (.int .i64 fi) := cell_of_row y2 _ 3 _ _ _ hT
  have c4 : y2.cell? ⟨w.heap.size, 4, none⟩ = some (.slice eA ents.length eC) := cell_of_row y2 _ 4 _ _ _ hT
  have c5 : y2.cell? ⟨w.heap.size, 5, none⟩ = some (.slice dA dels.length dC) := cell_of_row y2 _ 5 _ _ _ hT
  have c6 : y2.cell? ⟨w.heap.size, 6, none⟩ = some (.slice pA pla.length pC) := cell_of_row y2 _ 6 _ _ _ hT
  have c7 : y2.cell? ⟨w.heap.size, 7, none⟩ = some (.slice rA rel.length rC) := cell_of_row y2 _ 7 _ _ _ hT
  have c8 : y2.cell? ⟨w.heap.size, 8, none⟩ = some (.slice qA pol.length qC) := cell_of_row y2 _ 8 _ _ _ hT
  have c9 : y2.cell? ⟨w.heap.size, 9, none⟩ = some (.slice hA hor.length hC) := cell_of_row y2 _ 9 _ _ _ hT
  clear hT
  go_wp2_with fail
  (with_reducible refine (K3.out _ HB2.out).mono ?_)
  rintro _ y3 ⟨v, rfl, hv, hb3⟩
  have KE := equal35_any u v (outC C) _ _ y3 (HU.out.below hb3) (hv.wide (G := (· < y3.heap.size)) (fun b hb => hb.2))
  have HB3 := Lib.hid (HB2.out.trans (hb3.mono HB2.out.size))
  obtain ⟨k, hk⟩ : ∃ k, k = encCE C := ⟨_, rfl⟩
  clear c0 c1 c2 c3 c4 c5 c6 c7 c8 c9 hb3 hv
  rw [← hk]
  clear hk
  go_wp2_with fail
  (with_reducible refine KE.mono ?_)
  rintro _ _ ⟨rfl, rfl⟩
  have HB4 := HB3
  clear KE
  go_wp2_with fail
  (with_reducible refine (works35_any _).mono ?_)
  rintro _ y5 ⟨rfl, hb5⟩
  go_wp2_with fail
  go_ret
  exact ⟨rfl, HB4.out.trans (hb5.mono HB4.out.size)⟩
end Go.Proofs.YtbfdegkickjbpaaGreat
