/-
  Manifests: the deferred closure of Decode.
-/
import Derived.Test.YthjephhojngiaaaGreatDoorManJ
import Derived.Defers
namespace Go.Proofs.YthjephhojngiaaaGreatDoor
open Go.RowKit Go.Lib Go.IntWalk

set_option maxRecDepth 100000 in
set_option maxHeartbeats 2000000 in
theorem dec1_skip (E M : Nat) (w : World) (hE : w.cell? ⟨E, 0, none⟩ = some (.int .i64 0)) :
    CallsD Tryz.prog 45 #[.pointer (some ⟨E, 0, none⟩), .pointer (some ⟨M, 0, none⟩)] .returning w fun e u' w' => u' = .returning ∧ e = .returned (.tuple #[]) ∧ w' = w := by
  go_enter_d Tryz.func45, Tryz.ntmps45
  go_wp2_with fail
  first | (go_end0; done) | (go_end0; exact ⟨rfl, rfl⟩)
set_option maxRecDepth 100000 in
set_option maxHeartbeats 2000000 in
theorem dec1_zero (E M : Nat) (x : Int) (m0 m1 m2 m3 m4 : Value) (w : World) (hE : w.cell? ⟨E, 0, none⟩ = some (.int .i64 x)) (hx : x ≠ 0) (hM : w.heap[M]? = some (.cells #[m0, m1, m2, m3, m4] 25 (0, 0))) :
    CallsD Tryz.prog 45 #[.pointer (some ⟨E, 0, none⟩), .pointer (some ⟨M, 0, none⟩)] .returning w fun e u' w' => u' = .returning ∧ e = .returned (.tuple #[]) ∧ Chg (· = M) w w' := by
  have b1 : (x == 0) = false := by rw [beq_eq_false_iff_ne]; exact hx
  have b2 : (x != 0) = true := by rw [bne_iff_ne]; exact hx
  have c0 : w.cell? ⟨M, 0, none⟩ = some m0 := cell_of_row _ _ 0 _ _ _ hM
  have c1 : w.cell? ⟨M, 1, none⟩ = some m1 := cell_of_row _ _ 1 _ _ _ hM
  have c2 : w.cell? ⟨M, 2, none⟩ = some m2 := cell_of_row _ _ 2 _ _ _ hM
  have c3 : w.cell? ⟨M, 3, none⟩ = some m3 := cell_of_row _ _ 3 _ _ _ hM
  have c4 : w.cell? ⟨M, 4, none⟩ = some m4 := cell_of_row _ _ 4 _ _ _ hM
  have f0 := frozen_of_row w M 0 _ _ hM
  have f1 := frozen_of_row w M 1 _ _ hM
  have f2 := frozen_of_row w M 2 _ _ hM
  have f3 := frozen_of_row w M 3 _ _ hM
  have f4 := frozen_of_row w M 4 _ _ hM
  go_enter_d Tryz.func45, Tryz.ntmps45
  go_wp2_with fail
  have hc : Chg (· = M) w (((((w.setCell ⟨M, 0, none⟩ (.string ⟨#[]⟩)).setCell ⟨M, 1, none⟩ (.slice none 0 0)).setCell ⟨M, 2, none⟩ (.string ⟨#[]⟩)).setCell ⟨M, 3, none⟩ (.int .i64 0)).setCell ⟨M, 4, none⟩ (.int .i64 0)) :=
    (((((Chg.refl (· = M) w).setCell (.inl rfl) _).setCell (.inl rfl) _).setCell (.inl rfl) _).setCell (.inl rfl) _).setCell (.inl rfl) _
  first | (go_end0; exact ⟨rfl, hc⟩) | (go_end0; exact hc)
end Go.Proofs.YthjephhojngiaaaGreatDoor
