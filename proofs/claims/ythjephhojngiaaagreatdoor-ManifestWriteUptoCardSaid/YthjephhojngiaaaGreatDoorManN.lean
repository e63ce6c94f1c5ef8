/-
  Manifests: Decode's end.
-/
import Derived.Test.YthjephhojngiaaaGreatDoorManM
namespace Go.Proofs.YthjephhojngiaaaGreatDoor
open Go.RowKit Go.Lib Go.IntWalk

theorem dec_results (tmps : Array Value) (w : World) (H : Nat) (m0 m1 m2 m3 m4 : Value) (x : Int) (h2 : tmps.getD 2 undef = .pointer (some ⟨H, 0, none⟩)) (h3 : tmps.getD 3 undef = .pointer (some ⟨H + 1, 0, none⟩))
    (hM : w.heap[H]? = some (.cells #[m0, m1, m2, m3, m4] 25 (0, 0))) (hE : w.cell? ⟨H + 1, 0, none⟩ = some (.int .i64 x)) :
    (results Tryz.f23 tmps).run Tryz.prog w = .ok (.tuple #[.agg #[m0, m1, m2, m3, m4], .int .i64 x]) w := by
  have q2 : tmps[2]?.getD undef = .pointer (some ⟨H, 0, none⟩) := by simpa using h2
  have q3 : tmps[3]?.getD undef = .pointer (some ⟨H + 1, 0, none⟩) := by simpa using h3
  have r1 := run_loadVar_row (P := Tryz.prog) w H _ 25 _ _ _ hM Tryz.underlying25 rfl (by kernel_rfl)
  have r2 : (loadVar 26 ⟨H + 1, 0, none⟩).run Tryz.prog w = .ok (.int .i64 x) w := by
    simp [go_sem, loadVar, isAgg, run_underlying Tryz.underlying26, hE]
  have e : (results Tryz.f23 tmps) = (do
      let vs ← (#[.cell 2 25, .cell 3 26] : Array ResultVar).mapM fun
        | .tmp t => pure (tmps.getD t undef)
        | .cell a t => do loadVar t (← asAddr (tmps.getD a undef))
      pure (if h : vs.size = 1 then vs[0] else .tuple vs)) := rfl
  rw [e]
  simp [asAddr, q2, q3, r1, r2, Sem.run_bind]
theorem dec_door {R : Ending → World → Prop} (tmps : Array Value) (H : Nat) (w : World) (m0 m1 m2 m3 m4 : Value) (x : Int) (h2 : tmps.getD 2 undef = .pointer (some ⟨H, 0, none⟩)) (h3 : tmps.getD 3 undef = .pointer (some ⟨H + 1, 0, none⟩))
    (hM : w.heap[H]? = some (.cells #[m0, m1, m2, m3, m4] 25 (0, 0))) (hE : w.cell? ⟨H + 1, 0, none⟩ = some (.int .i64 x)) (hlt : H + 1 < w.heap.size)
    (h : ∀ w', Chg (· = H) w w' → R (.returned (.tuple #[.agg (if x = 0 then #[m0, m1, m2, m3, m4] else #[.string (strB []), .slice none 0 0, .string (strB []), .int .i64 0, .int .i64 0]), .int .i64 x])) w') :
    Leaves Tryz.prog Tryz.f23 tmps R [{ target := .fn (.func 45) #[.pointer (some ⟨H + 1, 0, none⟩), .pointer (some ⟨H, 0, none⟩)], args := #[] }] .returning w := by
  refine leaves_cons (f := 45) (args := #[.pointer (some ⟨H + 1, 0, none⟩), .pointer (some ⟨H, 0, none⟩)]) (by simp) (by simp [go_sem]) ?_
  refine (dec1_any (H + 1) H x m0 m1 m2 m3 m4 w hE hM).mono ?_
  rintro e u' w' ⟨rfl, rfl, hc, hr⟩
  have hE' : w'.cell? ⟨H + 1, 0, none⟩ = some (.int .i64 x) := (World.cell?_of_block (w := w) (hc.block (H + 1) hlt (by omega))).trans hE
  by_cases hx : x = 0
  · rw [if_pos hx] at hr
    have h := h w' hc
    rw [if_pos hx] at h
    exact ⟨_, dec_results tmps w' H _ _ _ _ _ x h2 h3 hr hE', h⟩
  · rw [if_neg hx] at hr
    have h := h w' hc
    rw [if_neg hx] at h
    exact ⟨_, dec_results tmps w' H _ _ _ _ _ x h2 h3 hr hE', h⟩
end Go.Proofs.YthjephhojngiaaaGreatDoor
