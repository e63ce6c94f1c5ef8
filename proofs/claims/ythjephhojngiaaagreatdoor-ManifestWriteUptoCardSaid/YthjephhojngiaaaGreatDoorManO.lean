/-
  Manifests: the state of Decode.
-/
import Derived.Test.YthjephhojngiaaaGreatDoorManN
namespace Go.Proofs.YthjephhojngiaaaGreatDoor
open Go.RowKit Go.Lib Go.IntWalk

/-- what Decode answers -/
def DecOut (r : Man × Int) (w0 : World) (e : Ending) (w : World) : Prop := ∃ As cs, e = .returned (.tuple #[manV As cs r.1, .int .i64 r.2]) ∧ OwnS w w0.heap.size (.slice As r.1.segs.length cs) r.1.segs ∧ Below w0.heap.size w0 w
abbrev rowM (As : Option Addr) (cs : Nat) (m : Man) : Array Value := #[.string (strB m.base), .slice As m.segs.length cs, .string (strB m.log), .int .i64 m.tx, .int .i64 m.nx]
/-- the manifest in the making (block H) -/
structure DecM (w0 w : World) (H Bd : Nat) (As : Option Addr) (cs : Nat) (m : Man) : Prop where
  row : w.heap[H]? = some (.cells (rowM As cs m) 25 (0, 0))
  o : OwnS w (Bd + 3) (.slice As m.segs.length cs) m.segs
  b : Below H w0 w
section
variable {w0 w w' : World} {H Bd : Nat} {As : Option Addr} {cs : Nat} {m : Man} {e : Int}
theorem DecM.c0 (h : DecM w0 w H Bd As cs m) : w.cell? ⟨H, 0, none⟩ = some (.string (strB m.base)) := cell_of_row _ _ 0 _ _ _ h.row
theorem DecM.c1 (h : DecM w0 w H Bd As cs m) : w.cell? ⟨H, 1, none⟩ = some (.slice As m.segs.length cs) := cell_of_row _ _ 1 _ _ _ h.row
theorem DecM.c2 (h : DecM w0 w H Bd As cs m) : w.cell? ⟨H, 2, none⟩ = some (.string (strB m.log)) := cell_of_row _ _ 2 _ _ _ h.row
theorem DecM.c3 (h : DecM w0 w H Bd As cs m) : w.cell? ⟨H, 3, none⟩ = some (.int .i64 m.tx) := cell_of_row _ _ 3 _ _ _ h.row
theorem DecM.c4 (h : DecM w0 w H Bd As cs m) : w.cell? ⟨H, 4, none⟩ = some (.int .i64 m.nx) := cell_of_row _ _ 4 _ _ _ h.row
theorem DecM.fr (h : DecM w0 w H Bd As cs m) (j : Nat) : w.frozen? ⟨H, j, none⟩ = false := frozen_of_row _ _ _ _ _ h.row
theorem DecM.chg {S : Nat → Prop} (h : DecM w0 w H Bd As cs m) (hc : Chg S w w') (hs : ∀ x, S x → H < x ∧ (x < Bd + 3 ∨ w.heap.size ≤ x)) : DecM w0 w' H Bd As cs m := by
  have hlt : H < w.heap.size := (Array.getElem?_eq_some_iff.1 h.row).1
  refine ⟨(hc.block H hlt (fun hx => by have := hs H hx; omega)).trans h.row, ?_, h.b.trans (hc.below (by omega) (fun i hi => by have := hs i hi; omega))⟩
  have hg : w.grownBy w' none → OwnS w' (Bd + 3) (.slice As m.segs.length cs) m.segs := fun hg => World.ownsRow.kept (row := none) h.o hg (by cases (Value.slice As m.segs.length cs).ownBlock <;> simp)
  obtain ⟨h1, h2⟩ := h.o
  refine ⟨h1, ?_⟩
  rcases h2 with h2 | ⟨g, cap, cur, hv, hg, hr, rest⟩
  · exact .inl h2
  · have hgl : g < w.heap.size := (Array.getElem?_eq_some_iff.1 hr).1
    exact .inr ⟨g, cap, cur, hv, hg, (hc.block g hgl (fun hx => by have := hs g hx; omega)).trans hr, rest⟩
theorem DecM.self (h : DecM w0 w H Bd As cs m) (hb : H < Bd) (o : Nat) (u : Value) (hu : (rowM As cs m)[o]? = some u) : DecM w0 (w.setCell ⟨H, o, none⟩ u) H Bd As cs m := by
  have r := heap_setCell_same w H o _ _ u h.row
  rw [set_self _ _ _ hu] at r
  refine ⟨r, ?_, h.b.trans (((Chg.refl (· = H) w).setCell (.inl rfl) u).below (Nat.le_of_lt (Array.getElem?_eq_some_iff.1 h.row).1) (fun i hi => by omega))⟩
  exact own_setCell h.o (fun e => by have := (World.ownsRow.lt h.o H e).1; omega) u
theorem DecM.store (h : DecM w0 w H Bd As cs m) (hb : H < Bd) : DecM w0 (((((w.setCell ⟨H, 0, none⟩ (.string (strB m.base))).setCell ⟨H, 1, none⟩ (.slice As m.segs.length cs)).setCell ⟨H, 2, none⟩ (.string (strB m.log))).setCell ⟨H, 3, none⟩ (.int .i64 m.tx)).setCell ⟨H, 4, none⟩ (.int .i64 m.nx)) H Bd As cs m :=
  ((((h.self hb 0 _ rfl).self hb 1 _ rfl).self hb 2 _ rfl).self hb 3 _ rfl).self hb 4 _ rfl
/-- the error's cell -/
def EAt (w : World) (H : Nat) (e : Int) : Prop := w.heap[H + 1]? = some (.cells #[.int .i64 e] 26 (0, 0))
theorem EAt.c (h : EAt w H e) : w.cell? ⟨H + 1, 0, none⟩ = some (.int .i64 e) := cell_of_row _ _ 0 _ _ _ h
theorem EAt.fr (h : EAt w H e) : w.frozen? ⟨H + 1, 0, none⟩ = false := frozen_of_row _ _ _ _ _ h
theorem EAt.chg {S : Nat → Prop} (h : EAt w H e) (hc : Chg S w w') (hs : ¬ S (H + 1)) : EAt w' H e := (hc.block _ (Array.getElem?_eq_some_iff.1 h).1 hs).trans h
theorem EAt.self (h : EAt w H e) (o : Nat) (u : Value) : EAt (w.setCell ⟨H, o, none⟩ u) H e := (heap_setCell_other w _ _ u (by simp)).trans h
theorem EAt.store (h : EAt w H e) (o0 o1 o2 o3 o4 : Nat) (u0 u1 u2 u3 u4 : Value) : EAt (((((w.setCell ⟨H, o0, none⟩ u0).setCell ⟨H, o1, none⟩ u1).setCell ⟨H, o2, none⟩ u2).setCell ⟨H, o3, none⟩ u3).setCell ⟨H, o4, none⟩ u4) H e :=
  ((((h.self o0 u0).self o1 u1).self o2 u2).self o3 u3).self o4 u4
theorem EAt.set (h : EAt w H e) (e' : Int) : EAt (w.setCell ⟨H + 1, 0, none⟩ (.int .i64 e')) H e' := heap_setCell_same w (H + 1) 0 _ _ (.int .i64 e') h
theorem DecM.setE (h : DecM w0 w H Bd As cs m) (hb : H < Bd) (u : Value) : DecM w0 (w.setCell ⟨H + 1, 0, none⟩ u) H Bd As cs m :=
  h.chg ((Chg.refl (· = H + 1) w).setCell (.inl rfl) u) (fun x hx => by omega)
theorem dec_fin (tmps : Array Value) (h2 : tmps.getD 2 undef = .pointer (some ⟨H, 0, none⟩)) (h3 : tmps.getD 3 undef = .pointer (some ⟨H + 1, 0, none⟩)) (hH : w0.heap.size = H) (hb : H < Bd)
    (hD : DecM w0 w H Bd As cs m) (hE : EAt w H e) (r : Man × Int) (hr : r = if e = 0 then (m, 0) else (.zero, e)) :
    Leaves Tryz.prog Tryz.f23 tmps (DecOut r w0) [{ target := .fn (.func 45) #[.pointer (some ⟨H + 1, 0, none⟩), .pointer (some ⟨H, 0, none⟩)], args := #[] }] .returning w := by
  refine dec_door tmps H w _ _ _ _ _ e h2 h3 hD.row hE.c (Array.getElem?_eq_some_iff.1 hE).1 ?_
  intro w' hc
  subst hr
  have hB : Below H w0 w' := hD.b.trans (hc.below (Nat.le_of_lt (Array.getElem?_eq_some_iff.1 hD.row).1) (fun i hi => by omega))
  by_cases he : e = 0
  · subst he
    rw [if_pos rfl, if_pos rfl]
    refine ⟨As, cs, rfl, ?_, by rw [hH]; exact hB⟩
    obtain ⟨h1, h2⟩ := hD.o
    refine ⟨h1, ?_⟩
    rcases h2 with h2 | ⟨g, cap, cur, hv, hg, hr, rest⟩
    · exact .inl h2
    · exact .inr ⟨g, cap, cur, hv, by omega, (hc.block g (Array.getElem?_eq_some_iff.1 hr).1 (by omega)).trans hr, rest⟩
  · rw [if_neg he, if_neg he]
    exact ⟨none, 0, rfl, OwnS.nil _ _, by rw [hH]; exact hB⟩
/-- a closure writes a field of the manifest -/
def FldOut (w0 : World) (H Bd : Nat) (As : Option Addr) (cs : Nat) (m : Man) (v : Value) (body : List UInt8) (k e : Int) (w : World) (en : Ending) (w' : World) : Prop :=
  en = .returned (.tuple #[]) ∧ DecM w0 w' H Bd As cs m ∧ DecC w' H Bd v body k e ∧ Chg (fun x => x = H ∨ x = H + 1 ∨ x = Bd + 1) w w'
theorem fld_done {w1 : World} {t : TypeId} {v : Value} {body : List UInt8} {k : Int} {en : Ending} {m' : Man} {cells : Array Value} (hD : DecM w0 w H Bd As cs m) (hb : H + 1 < Bd) (ht : t = 25) (h : ClOut H Bd H t cells v body k e w en w1) (hm : cells = rowM As cs m') (hs : m'.segs = m.segs) : FldOut w0 H Bd As cs m' v body k e w en w1 := by
  obtain ⟨h1, h2, h3, h4⟩ := h
  subst hm; subst ht
  have h4' : Chg (fun x => x = H ∨ x = H + 1 ∨ x = Bd + 1) w w1 := h4.mono (fun i hi => hi)
  refine ⟨h1, ⟨h3, ?_, hD.b.trans (h4'.below (Nat.le_of_lt (Array.getElem?_eq_some_iff.1 hD.row).1) (fun i hi => by omega))⟩, h2, h4'⟩
  rw [hs]
  obtain ⟨k1, k2⟩ := hD.o
  refine ⟨k1, ?_⟩
  rcases k2 with k2 | ⟨g, cap, cur, hv, hg, hr, rest⟩
  · exact .inl k2
  · exact .inr ⟨g, cap, cur, hv, hg, (h4'.block g (Array.getElem?_eq_some_iff.1 hr).1 (by omega)).trans hr, rest⟩
theorem nextF_len (l : List UInt8) (k : Int) : (nextF l k).1.length ≤ l.length := by
  unfold nextF
  repeat' split
  all_goals simp
  omega
theorem bodyM_segs (m : Man) : m.segs.length ≤ (bodyM m).length := by
  have : m.segs.length ≤ (m.segs.flatMap txE).length := by
    induction m.segs with
    | nil => simp
    | cons s r ih =>
      rw [List.flatMap_cons, List.length_append, List.length_cons]
      have : 1 ≤ (txE s).length := by
        unfold txE; rw [List.length_append]
        have : 1 ≤ (encI s.length).length := by unfold encI; rw [vl]; split <;> simp
        omega
      omega
  unfold bodyM; simp only [List.length_append]; omega
theorem bodyM_nms (m : Man) : ∀ s ∈ nmsF m, s.length ≤ (bodyM m).length := by
  have hx : ∀ x : List UInt8, x.length ≤ (txE x).length := fun x => by unfold txE; simp
  have hb := hx m.base
  have hl := hx m.log
  intro s hs
  unfold bodyM
  simp only [List.length_append]
  unfold nmsF at hs
  simp only [List.mem_append, List.mem_singleton] at hs
  rcases hs with (hs | hs) | hs
  · split at hs
    · cases hs
    · simp only [List.mem_singleton] at hs; subst hs; omega
  · have : s.length ≤ (m.segs.flatMap txE).length := by
      have h1 := hx s
      have h2 : (txE s).length ≤ (m.segs.flatMap txE).length := by
        revert hs
        induction m.segs with
        | nil => intro hs; cases hs
        | cons y r ih =>
          intro hs
          rw [List.flatMap_cons, List.length_append]
          rcases List.mem_cons.1 hs with rfl | hs
          · omega
          · have := ih hs; omega
      omega
    omega
  · subst hs; omega
end
theorem stI_bd {body : List UInt8} {k e n m f : Int} (h : stI body k e = (n, m, f)) : n ≤ 9223372036854775807 := by
  unfold stI at h
  split at h
  · have := (decI_bd body k).2.1
    rw [h] at this
    exact this
  · simp only [Prod.mk.injEq] at h
    omega
theorem encM_err (m : Man) : (encM m).2 = chkF m := by
  unfold encM
  split
  · rename_i h; rw [h]
  · rfl
theorem body_ok {body : List UInt8} {e1 e2 n k1 k2 k3 k4 k5 k6 e3 e4 e5 tx nx : Int} {s1 lg : List UInt8} {sg : List (List UInt8)} (h1 : decT body 0 200 = (s1, k1, e1)) (h2 : stI body k1 e1 = (n, k2, e2)) (hn : ¬ (e2 = 0 ∧ n < 0))
    (h3 : SegsAre body n k2 e2 sg k3 e3) (h4 : stT body k3 e3 = (lg, k4, e4)) (h5 : stI body k4 e4 = (tx, k5, e5)) (h6 : stI body k5 e5 = (nx, k6, 0)) (hk : ¬ k6 < (body.length : Int)) : bodyM ⟨s1, sg, lg, tx, nx⟩ = body := by
  have z5 : e5 = 0 := Classical.byContradiction fun h => by rw [stI_err h] at h6; simp only [Prod.mk.injEq] at h6; exact h h6.2.2
  subst z5
  have z4 : e4 = 0 := Classical.byContradiction fun h => by rw [stI_err h] at h5; simp only [Prod.mk.injEq] at h5; exact h h5.2.2
  subst z4
  have z3 : e3 = 0 := Classical.byContradiction fun h => by rw [stT_err h] at h4; simp only [Prod.mk.injEq] at h4; exact h h4.2.2
  subst z3
  have z2 : e2 = 0 := Classical.byContradiction fun h => by unfold SegsAre at h3; rw [if_neg h] at h3; exact h h3.symm
  subst z2
  have z1 : e1 = 0 := Classical.byContradiction fun h => by rw [stI_err h] at h2; simp only [Prod.mk.injEq] at h2; exact h h2.2.2
  subst z1
  unfold SegsAre at h3
  rw [if_pos rfl, if_pos rfl] at h3
  rw [stI, if_pos rfl] at h2 h5 h6
  rw [stT, if_pos rfl] at h4
  exact body_got h1 h2 (fun h => hn ⟨rfl, h⟩) h3 h4 h5 h6 hk
end Go.Proofs.YthjephhojngiaaaGreatDoor
