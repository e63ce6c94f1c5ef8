/-
 WkB
-/
import Derived.Test.YtbfdegkickjbpaaGreatTWkA
namespace Go.Proofs.YtbfdegkickjbpaaGreat
open Go.RowKit Go.Lib Go.IntWalk Go.Sort Go.Shelf
set_option maxRecDepth 1000000 in
set_option maxHeartbeats 4000000 in
theorem bufText_any (base B : Nat) (l : List UInt8) (S : ByteArray) (w : World) (hbB : base ≤ B) (h : BufAt w base B l) (hS : S.size ≤ 300) (hl : l.length + 4000 ≤ 140737488300000) :
  Calls Tryz.prog 109 #[.pointer (some ⟨B, 0, none⟩), .string S] w (BufOut base B (l ++ (encI S.size ++ S.data.toList)) w) := by
 have hBl := h.lt
 obtain ⟨v, hBB, hO⟩ := h
 have hbase : base ≤ w.heap.size := by omega
 have HBB := Lib.hid hBB
 have HO := Lib.hid hO
 obtain ⟨A0, c0, rfl, y1, y2, y3⟩ := Rd.open_ (Rd.of_own hO)
 have k0 : w.cell? ⟨B, 0, none⟩ = some (.slice A0 l.length c0) := cell_of_row w B 0 _ _ _ hBB
 clear y3 y2 hBB hO
 have HLE : Hid (l.length + ((encI S.size ++ S.data.toList)).length ≤ 140737488300000) := Lib.hid (by have := encI_length S.size; rw [List.length_append, show S.data.toList.length = S.size from rfl]; omega)
 have hbW : Below w.heap.size w w := Below.refl _ _
 have hWs : w.heap.size ≤ w.heap.size := Nat.le_refl _
 have hWl : B < w.heap.size := hBl
 have k1 := k0
 go_enter Tryz.func109, Tryz.ntmps109
 go_wp2_with fail
 refine wp_region_noPanic ?_
 refine beginT (S := (fun w' => w'.cell? ⟨B, 0, none⟩ = some (.slice A0 l.length c0))) 10 (by kernel_rfl) ?_ (fun hHeld => ?_)
 ·exact k1
 refine tT 0 4 hHeld ?_
 simp only [aP]
 refine tT 1 5 hHeld ?_
 simp only [aP]
 refine tT 2 6 hHeld ?_
 simp only [aP]
 refine tT 3 7 hHeld ?_
 simp only [aP]
 refine tT 4 8 hHeld ?_
 simp only [aP]
 refine tT 5 9 hHeld ?_
 simp only [aP]
 refine cT 6 10 ?_
 (with_reducible refine (putText_any (.slice none 0 0) [] S _ (RdB.nil _ _) (by simp; omega)).mono ?_)
 rintro e w2 ⟨vd, rfl, hOd, hb2⟩
 obtain ⟨Ad, cd, rfl, j1, j2, j3⟩ := Rd.open_ hOd.rd
 clear j3 j2
 refine ⟨_, rfl, keepAnd ?_ (fun hNew => ?_)⟩
 ·intro _; exact (World.cell?_of_block (hb2.block B (by have := hWl; exact this))).trans k1
 have hNew := hNew (by decide)
 clear hHeld
 have hHeld := hNew
 clear hNew
 simp only [aP]
 have hbw2 : Below w.heap.size w w2 := hbW.trans ((Below.undrew hb2).mono hWs)
 have hO2 : OwnB w2 base (.slice A0 l.length c0) l := own_below HO.out hbw2
 have hB2 : w2.heap[B]? = some (.cells #[.slice A0 l.length c0] 97 (0, 0)) := (hbw2.block B hBl).trans HBB.out
 refine opT 7 rfl (by kernel_rfl) (by rfl) ?_
 refine wp_append_b (.tmp 8) (.tmp 10) rfl base (.slice A0 l.length c0) l rfl hO2 (· < w2.heap.size) _ ((encI S.size ++ S.data.toList)) rfl hOd.rd (by have := HLE.out; omega) (by have := hbw2.size; omega) ?_
 intro v' w3 hO3 hb3 hg3 hv3
 have hDone := buf_done hbB HBB.out HO.out hbw2 hO3 hb3 hg3 hv3
 have hB3 : w3.heap[B]? = some (.cells #[.slice A0 l.length c0] 97 (0, 0)) := (hg3.block B (by have := hbw2.size; omega) (own_not hO2 hB2 (by decide))).trans hB2
 have kf : w3.frozen? ⟨B, 0, none⟩ = false := frozen_of_row w3 B 0 _ _ hB3
 have kc : w3.cell? ⟨B, 0, none⟩ = some (.slice A0 l.length c0) := cell_of_row w3 B 0 _ _ _ hB3
 obtain ⟨A3, c3, rfl, z1, z2, z3⟩ := Rd.open_ (Rd.of_own hO3)
 clear z3 z2
 refine keepAnd ?_ (fun hNew => ?_)
 ·intro _; exact cell_of_row _ B 0 _ _ _ hB3
 have hNew := hNew (by decide)
 clear hHeld
 have hHeld := hNew
 clear hNew
 simp only [aP]
 refine runT 8 (some 12) (v := ?_) (w' := _) rfl rfl (by kernel_rfl) (by rfl) ?_ (fun _ => hHeld) ?_
 rotate_left
 ·go_simp <;> with_reducible rfl
 simp only [aP]
 refine tT 9 13 hHeld ?_
 simp only [aP]
 refine skipRunT 10 none (w' := w3.setCell ⟨B, 0, none⟩ (.slice A3 (l ++ (encI S.size ++ S.data.toList)).length c3)) rfl rfl (by kernel_rfl) (by rfl) ?_ (fun h => absurd rfl h) ?_
 ·go_simp <;> with_reducible rfl
 clear hHeld
 simp only [Act.put]
 refine doneT (by kernel_rfl) ?_ _
 refine NoPanic.normal ?_
 go_wp2_with fail
 go_end0
 exact hDone
end Go.Proofs.YtbfdegkickjbpaaGreat
