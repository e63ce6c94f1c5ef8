/-
  Manifests: the state of the reference's Decode.
-/
import Derived.Test.YthjephhojngiaaaGreatDoorManO
namespace Go.Proofs.YthjephhojngiaaaGreatDoor
open Go.RowKit Go.Lib Go.IntWalk

theorem rdec_results (tmps : Array Value) (w : World) (H : Nat) (m0 m1 m2 m3 m4 : Value) (x : Int) (h2 : tmps.getD 2 undef = .pointer (some ⟨H, 0, none⟩)) (h3 : tmps.getD 3 undef = .int .i64 x)
    (hM : w.heap[H]? = some (.cells #[m0, m1, m2, m3, m4] 25 (0, 0))) :
    (results Tryz.f36 tmps).run Tryz.prog w = .ok (.tuple #[.agg #[m0, m1, m2, m3, m4], .int .i64 x]) w := by
  have q2 : tmps[2]?.getD undef = .pointer (some ⟨H, 0, none⟩) := by simpa using h2
  have q3 : tmps[3]?.getD undef = .int .i64 x := by simpa using h3
  have r1 := run_loadVar_row (P := Tryz.prog) w H _ 25 _ _ _ hM Tryz.underlying25 rfl (by kernel_rfl)
  have e : (results Tryz.f36 tmps) = (do
      let vs ← (#[.cell 2 25, .tmp 3] : Array ResultVar).mapM fun
        | .tmp t => pure (tmps.getD t undef)
        | .cell a t => do loadVar t (← asAddr (tmps.getD a undef))
      pure (if h : vs.size = 1 then vs[0] else .tuple vs)) := rfl
  rw [e]
  simp [asAddr, q2, q3, r1]
/-- the result's block -/
structure ResZ (w0 w : World) (H : Nat) : Prop where
  row : w.heap[H]? = some (.cells (rowM none 0 .zero) 25 (0, 0))
  b : Below H w0 w
theorem five_chg (w : World) (H : Nat) (u0 u1 u2 u3 u4 : Value) : Chg (· = H) w (((((w.setCell ⟨H, 0, none⟩ u0).setCell ⟨H, 1, none⟩ u1).setCell ⟨H, 2, none⟩ u2).setCell ⟨H, 3, none⟩ u3).setCell ⟨H, 4, none⟩ u4) :=
  (((((Chg.refl (· = H) w).setCell (.inl rfl) _).setCell (.inl rfl) _).setCell (.inl rfl) _).setCell (.inl rfl) _).setCell (.inl rfl) _
theorem rdec_err {w0 w : World} {H : Nat} {e : Int} (tmps : Array Value) (h2 : tmps.getD 2 undef = .pointer (some ⟨H, 0, none⟩)) (h3 : tmps.getD 3 undef = .int .i64 e) (hH : w0.heap.size = H) (hR : ResZ w0 w H) (r : Man × Int) (hr : r = (.zero, e)) :
    bodyPost Tryz.prog Tryz.f36 (DecOut r w0) .ret { tmps := tmps, defers := [] } (((((w.setCell ⟨H, 0, none⟩ (.string ⟨#[]⟩)).setCell ⟨H, 1, none⟩ (.slice none 0 0)).setCell ⟨H, 2, none⟩ (.string ⟨#[]⟩)).setCell ⟨H, 3, none⟩ (.int .i64 0)).setCell ⟨H, 4, none⟩ (.int .i64 0)) := by
  subst hr
  have hrow := row_set5 hR.row (.string ⟨#[]⟩) (.slice none 0 0) (.string ⟨#[]⟩) (.int .i64 0) (.int .i64 0)
  refine bodyPost_ret (rdec_results tmps _ H _ _ _ _ _ e h2 h3 hrow) rfl ⟨none, 0, rfl, OwnS.nil _ _, ?_⟩
  rw [hH]
  exact hR.b.trans ((five_chg w H _ _ _ _ _).below (Nat.le_of_lt (Array.getElem?_eq_some_iff.1 hR.row).1) (fun i hi => by omega))
/-- the manifest in the making (block Hm) -/
structure RDec (w0 w : World) (H Hm : Nat) (As : Option Addr) (cs : Nat) (m : Man) (v : Value) (body : List UInt8) : Prop where
  res : w.heap[H]? = some (.cells (rowM none 0 .zero) 25 (0, 0))
  row : w.heap[Hm]? = some (.cells (rowM As cs m) 25 (0, 0))
  o : OwnS w (Hm + 1) (.slice As m.segs.length cs) m.segs
  rd : RdB w (fun x => H < x ∧ x < Hm) v body
  b : Below H w0 w
section
variable {w0 w w' : World} {H Hm : Nat} {As : Option Addr} {cs : Nat} {m : Man} {v : Value} {body : List UInt8}
theorem RDec.z (h : RDec w0 w H Hm As cs m v body) : ResZ w0 w H := ⟨h.res, h.b⟩
theorem RDec.c0 (h : RDec w0 w H Hm As cs m v body) : w.cell? ⟨Hm, 0, none⟩ = some (.string (strB m.base)) := cell_of_row _ _ 0 _ _ _ h.row
theorem RDec.c1 (h : RDec w0 w H Hm As cs m v body) : w.cell? ⟨Hm, 1, none⟩ = some (.slice As m.segs.length cs) := cell_of_row _ _ 1 _ _ _ h.row
theorem RDec.c2 (h : RDec w0 w H Hm As cs m v body) : w.cell? ⟨Hm, 2, none⟩ = some (.string (strB m.log)) := cell_of_row _ _ 2 _ _ _ h.row
theorem RDec.c3 (h : RDec w0 w H Hm As cs m v body) : w.cell? ⟨Hm, 3, none⟩ = some (.int .i64 m.tx) := cell_of_row _ _ 3 _ _ _ h.row
theorem RDec.c4 (h : RDec w0 w H Hm As cs m v body) : w.cell? ⟨Hm, 4, none⟩ = some (.int .i64 m.nx) := cell_of_row _ _ 4 _ _ _ h.row
theorem RDec.fr (h : RDec w0 w H Hm As cs m v body) (j : Nat) : w.frozen? ⟨Hm, j, none⟩ = false := frozen_of_row _ _ _ _ _ h.row
theorem ResZ.c (h : ResZ w0 w H) : w.cell? ⟨H, 0, none⟩ = some (.string ⟨#[]⟩) ∧ w.cell? ⟨H, 1, none⟩ = some (.slice none 0 0) ∧ w.cell? ⟨H, 2, none⟩ = some (.string ⟨#[]⟩) ∧ w.cell? ⟨H, 3, none⟩ = some (.int .i64 0) ∧ w.cell? ⟨H, 4, none⟩ = some (.int .i64 0) :=
  ⟨cell_of_row _ _ 0 _ _ _ h.row, cell_of_row _ _ 1 _ _ _ h.row, cell_of_row _ _ 2 _ _ _ h.row, cell_of_row _ _ 3 _ _ _ h.row, cell_of_row _ _ 4 _ _ _ h.row⟩
theorem ResZ.fr (h : ResZ w0 w H) (j : Nat) : w.frozen? ⟨H, j, none⟩ = false := frozen_of_row _ _ _ _ _ h.row
theorem RDec.below (h : RDec w0 w H Hm As cs m v body) (hHm : H < Hm) (hb : Below w.heap.size w w') : RDec w0 w' H Hm As cs m v body := by
  have hl : Hm < w.heap.size := (Array.getElem?_eq_some_iff.1 h.row).1
  exact ⟨(hb.block _ (by omega)).trans h.res, (hb.block _ hl).trans h.row, h.o.below hb, h.rd.keep fun x hx => hb.block x (by omega), h.b.trans (hb.mono (by omega))⟩
theorem RDec.fld (h : RDec w0 w H Hm As cs m v body) (hHm : H < Hm) (o : Nat) (u : Value) (m' : Man) (hm : (rowM As cs m).setIfInBounds o u = rowM As cs m') (hs : m'.segs = m.segs) : RDec w0 (w.setCell ⟨Hm, o, none⟩ u) H Hm As cs m' v body := by
  have hl : Hm < w.heap.size := (Array.getElem?_eq_some_iff.1 h.row).1
  have r := heap_setCell_same w Hm o _ _ u h.row
  rw [hm] at r
  have hc : Chg (· = Hm) w (w.setCell ⟨Hm, o, none⟩ u) := (Chg.refl (· = Hm) w).setCell (.inl rfl) _
  refine ⟨(hc.block _ (by omega) (by omega)).trans h.res, r, ?_, h.rd.keep fun x hx => hc.block x (by omega) (by omega), h.b.trans (hc.below (by omega) (fun i hi => by omega))⟩
  rw [hs]
  exact own_setCell h.o (fun e => by have := (World.ownsRow.lt h.o Hm e).1; omega) u
theorem RDec.lt (h : RDec w0 w H Hm As cs m v body) : Hm < w.heap.size := (Array.getElem?_eq_some_iff.1 h.row).1
theorem rdec_ok (tmps : Array Value) (h2 : tmps.getD 2 undef = .pointer (some ⟨H, 0, none⟩)) (h3 : tmps.getD 3 undef = .int .i64 0) (hH : w0.heap.size = H) (hHm : H < Hm) (hR : RDec w0 w H Hm As cs m v body) (r : Man × Int) (hr : r = (m, 0)) :
    bodyPost Tryz.prog Tryz.f36 (DecOut r w0) .ret { tmps := tmps, defers := [] } (((((w.setCell ⟨H, 0, none⟩ (.string (strB m.base))).setCell ⟨H, 1, none⟩ (.slice As m.segs.length cs)).setCell ⟨H, 2, none⟩ (.string (strB m.log))).setCell ⟨H, 3, none⟩ (.int .i64 m.tx)).setCell ⟨H, 4, none⟩ (.int .i64 m.nx)) := by
  subst hr
  have hrow := row_set5 hR.res (.string (strB m.base)) (.slice As m.segs.length cs) (.string (strB m.log)) (.int .i64 m.tx) (.int .i64 m.nx)
  have hc := five_chg w H (.string (strB m.base)) (.slice As m.segs.length cs) (.string (strB m.log)) (.int .i64 m.tx) (.int .i64 m.nx)
  refine bodyPost_ret (rdec_results tmps _ H _ _ _ _ _ 0 h2 h3 hrow) rfl ⟨As, cs, rfl, ?_, ?_⟩
  · obtain ⟨k1, k2⟩ := hR.o
    refine ⟨k1, ?_⟩
    rcases k2 with k2 | ⟨g, cap, cur, hv, hg, hr, rest⟩
    · exact .inl k2
    · exact .inr ⟨g, cap, cur, hv, by omega, (hc.block g (Array.getElem?_eq_some_iff.1 hr).1 (by omega)).trans hr, rest⟩
  · rw [hH]
    exact hR.b.trans (hc.below (by have := hR.lt; omega) (fun i hi => by omega))
end
end Go.Proofs.YthjephhojngiaaaGreatDoor
