/-
  Manifests: the closures of Decode.
-/
import Derived.Test.YthjephhojngiaaaGreatDoorManI
namespace Go.Proofs.YthjephhojngiaaaGreatDoor
open Go.RowKit Go.Lib Go.IntWalk

set_option maxRecDepth 100000 in
set_option maxHeartbeats 2000000 in
theorem dec2_skip (E Bd At : Nat) (p : Option Addr) (e : Int) (w : World) (hE : w.cell? ⟨E, 0, none⟩ = some (.int .i64 e)) (he : e ≠ 0) :
    Calls Tryz.prog 47 #[.pointer p, .pointer (some ⟨E, 0, none⟩), .pointer (some ⟨Bd, 0, none⟩), .pointer (some ⟨At, 0, none⟩)] w fun e' w' => e' = .returned (.tuple #[]) ∧ w = w' := by
  have b1 : (e == 0) = false := by rw [beq_eq_false_iff_ne]; exact he
  go_enter Tryz.func47, Tryz.ntmps47
  go_wp2_with fail
  first | (go_end0; done) | (go_end0; exact ⟨rfl, rfl⟩) | trace_state
set_option maxRecDepth 100000 in
set_option maxHeartbeats 2000000 in
theorem dec3_skip (E Bd At : Nat) (p : Option Addr) (e : Int) (w : World) (hE : w.cell? ⟨E, 0, none⟩ = some (.int .i64 e)) (he : e ≠ 0) :
    Calls Tryz.prog 49 #[.pointer p, .pointer (some ⟨E, 0, none⟩), .pointer (some ⟨Bd, 0, none⟩), .pointer (some ⟨At, 0, none⟩)] w fun e' w' => e' = .returned (.tuple #[]) ∧ w = w' := by
  have b1 : (e == 0) = false := by rw [beq_eq_false_iff_ne]; exact he
  go_enter Tryz.func49, Tryz.ntmps49
  go_wp2_with fail
  first | (go_end0; done) | (go_end0; exact ⟨rfl, rfl⟩) | trace_state
set_option maxRecDepth 100000 in
set_option maxHeartbeats 4000000 in
theorem dec2_run (E Bd At b o : Nat) (v u : Value) (body : List UInt8) (F : Nat → Prop) (k : Int) (w : World) (hE : w.cell? ⟨E, 0, none⟩ = some (.int .i64 0)) (hB : w.cell? ⟨Bd, 0, none⟩ = some v) (hA : w.cell? ⟨At, 0, none⟩ = some (.int .i64 k)) (hp : w.cell? ⟨b, o, none⟩ = some u) (hv : RdB w F v body)
    (f1 : w.frozen? ⟨b, o, none⟩ = false) (f2 : (w.setCell ⟨b, o, none⟩ (.string (strB (decT body k 200).1))).frozen? ⟨At, 0, none⟩ = false) (f3 : ((w.setCell ⟨b, o, none⟩ (.string (strB (decT body k 200).1))).setCell ⟨At, 0, none⟩ (.int .i64 (decT body k 200).2.1)).frozen? ⟨E, 0, none⟩ = false)
    (n1 : E ≠ b) (n2 : At ≠ b) (n3 : E ≠ At) :
    Calls Tryz.prog 47 #[.pointer (some ⟨b, o, none⟩), .pointer (some ⟨E, 0, none⟩), .pointer (some ⟨Bd, 0, none⟩), .pointer (some ⟨At, 0, none⟩)] w fun e' w' => e' = .returned (.tuple #[]) ∧ w' = ((w.setCell ⟨b, o, none⟩ (.string (strB (decT body k 200).1))).setCell ⟨At, 0, none⟩ (.int .i64 (decT body k 200).2.1)).setCell ⟨E, 0, none⟩ (.int .i64 (decT body k 200).2.2) := by
  have CT := Lib.hid (text_any F v body k 200 w hv)
  unfold Text3 at CT
  generalize decT body k 200 = r at *
  obtain ⟨sx, kx, ex⟩ := r
  dsimp only at CT f1 f2 f3 ⊢
  go_enter Tryz.func47, Tryz.ntmps47
  go_wp2_with fail
  (with_reducible refine CT.out.mono ?_)
  rintro e1 w1 ⟨rfl, rfl⟩
  go_wp2_with fail
  first | (go_end0; done) | (go_end0; exact ⟨rfl, rfl⟩) | skip
set_option maxRecDepth 100000 in
set_option maxHeartbeats 4000000 in
theorem dec3_run (E Bd At b o : Nat) (v u : Value) (body : List UInt8) (F : Nat → Prop) (k : Int) (w : World) (hE : w.cell? ⟨E, 0, none⟩ = some (.int .i64 0)) (hB : w.cell? ⟨Bd, 0, none⟩ = some v) (hA : w.cell? ⟨At, 0, none⟩ = some (.int .i64 k)) (hp : w.cell? ⟨b, o, none⟩ = some u) (hv : RdB w F v body)
    (f1 : w.frozen? ⟨b, o, none⟩ = false) (f2 : (w.setCell ⟨b, o, none⟩ (.int .i64 (decI body k).1)).frozen? ⟨At, 0, none⟩ = false) (f3 : ((w.setCell ⟨b, o, none⟩ (.int .i64 (decI body k).1)).setCell ⟨At, 0, none⟩ (.int .i64 (decI body k).2.1)).frozen? ⟨E, 0, none⟩ = false)
    (n1 : E ≠ b) (n2 : At ≠ b) (n3 : E ≠ At) :
    Calls Tryz.prog 49 #[.pointer (some ⟨b, o, none⟩), .pointer (some ⟨E, 0, none⟩), .pointer (some ⟨Bd, 0, none⟩), .pointer (some ⟨At, 0, none⟩)] w fun e' w' => e' = .returned (.tuple #[]) ∧ w' = ((w.setCell ⟨b, o, none⟩ (.int .i64 (decI body k).1)).setCell ⟨At, 0, none⟩ (.int .i64 (decI body k).2.1)).setCell ⟨E, 0, none⟩ (.int .i64 (decI body k).2.2) := by
  have CT := Lib.hid (int_any F v body k w hv)
  unfold Int3 at CT
  generalize decI body k = r at *
  obtain ⟨sx, kx, ex⟩ := r
  dsimp only at CT f1 f2 f3 ⊢
  go_enter Tryz.func49, Tryz.ntmps49
  go_wp2_with fail
  (with_reducible refine CT.out.mono ?_)
  rintro e1 w1 ⟨rfl, rfl⟩
  go_wp2_with fail
  first | (go_end0; done) | (go_end0; exact ⟨rfl, rfl⟩) | skip
end Go.Proofs.YthjephhojngiaaaGreatDoor
