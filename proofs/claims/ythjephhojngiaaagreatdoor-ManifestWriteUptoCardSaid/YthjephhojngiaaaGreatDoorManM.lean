/-
  Manifests: the closures of Decode, whatever the error.
-/
import Derived.Test.YthjephhojngiaaaGreatDoorManL
import Derived.Defers
namespace Go.Proofs.YthjephhojngiaaaGreatDoor
open Go.RowKit Go.Lib Go.IntWalk

/-- the variables of Decode: e (block H + 1), body (Bd), at (Bd + 1) -/
structure DecC (w : World) (H Bd : Nat) (v : Value) (body : List UInt8) (k e : Int) : Prop where
  e : w.heap[H + 1]? = some (.cells #[.int .i64 e] 26 (0, 0))
  b : w.heap[Bd]? = some (.cells #[v] 51 (0, 0))
  a : w.heap[Bd + 1]? = some (.cells #[.int .i64 k] 3 (0, 0))
  rd : RdB w (fun x => H + 1 < x ∧ x < Bd) v body
theorem DecC.chg {w w' : World} {H Bd : Nat} {v : Value} {body : List UInt8} {k e : Int} {S : Nat → Prop} (h : DecC w H Bd v body k e) (hc : Chg S w w') (hs : ∀ x, S x → x = H ∨ Bd + 1 < x) (hH : H + 1 < Bd) : DecC w' H Bd v body k e := by
  have hlt : Bd + 1 < w.heap.size := (Array.getElem?_eq_some_iff.1 h.a).1
  have hk : ∀ x, H < x → x ≤ Bd + 1 → w'.heap[x]? = w.heap[x]? := fun x h1 h2 => hc.block x (by omega) (fun hx => by have := hs x hx; omega)
  exact ⟨(hk _ (by omega) (by omega)).trans h.e, (hk _ (by omega) (by omega)).trans h.b, (hk _ (by omega) (by omega)).trans h.a, h.rd.keep fun x hx => hk x (by omega) (by omega)⟩
theorem set_self (cs : Array Value) (o : Nat) (u : Value) (h : cs[o]? = some u) : cs.setIfInBounds o u = cs := by
  apply Array.ext_getElem?
  intro i
  rw [Array.getElem?_setIfInBounds]
  split
  · rename_i hi
    subst hi
    rw [h, if_pos (Array.getElem?_eq_some_iff.1 h).1]
  · rfl
/-- behind a closure's run -/
def ClOut (H Bd b : Nat) (t : TypeId) (cs : Array Value) (v : Value) (body : List UInt8) (k e : Int) (w0 : World) (en : Ending) (w : World) : Prop :=
  en = .returned (.tuple #[]) ∧ DecC w H Bd v body k e ∧ w.heap[b]? = some (.cells cs t (0, 0)) ∧ Chg (fun x => x = b ∨ x = H + 1 ∨ x = Bd + 1) w0 w
theorem cl_done {w : World} {H Bd b o : Nat} {t : TypeId} {cs : Array Value} {v u : Value} {body : List UInt8} {k e k' e' : Int} (h : DecC w H Bd v body k e) (hH : H + 1 < Bd) (hb : b = H ∨ Bd + 1 < b) (hR : w.heap[b]? = some (.cells cs t (0, 0))) :
    ClOut H Bd b t (cs.setIfInBounds o u) v body k' e' w (.returned (.tuple #[])) (((w.setCell ⟨b, o, none⟩ u).setCell ⟨Bd + 1, 0, none⟩ (.int .i64 k')).setCell ⟨H + 1, 0, none⟩ (.int .i64 e')) := by
  have r1 := heap_setCell_same w b o _ _ u hR
  have e1 : (w.setCell ⟨b, o, none⟩ u).heap[H + 1]? = _ := (heap_setCell_other w _ _ u (by simp; omega)).trans h.e
  have b1 : (w.setCell ⟨b, o, none⟩ u).heap[Bd]? = _ := (heap_setCell_other w _ _ u (by simp; omega)).trans h.b
  have a1 : (w.setCell ⟨b, o, none⟩ u).heap[Bd + 1]? = _ := (heap_setCell_other w _ _ u (by simp; omega)).trans h.a
  have a2 := heap_setCell_same _ (Bd + 1) 0 _ _ (.int .i64 k') a1
  have e2 := (heap_setCell_other (w.setCell ⟨b, o, none⟩ u) ⟨Bd + 1, 0, none⟩ (H + 1) (.int .i64 k') (by simp; omega)).trans e1
  have b2 := (heap_setCell_other (w.setCell ⟨b, o, none⟩ u) ⟨Bd + 1, 0, none⟩ Bd (.int .i64 k') (by simp)).trans b1
  have r2 := (heap_setCell_other (w.setCell ⟨b, o, none⟩ u) ⟨Bd + 1, 0, none⟩ b (.int .i64 k') (by simp; omega)).trans r1
  have hc : Chg (fun x => x = b ∨ x = H + 1 ∨ x = Bd + 1) w (((w.setCell ⟨b, o, none⟩ u).setCell ⟨Bd + 1, 0, none⟩ (.int .i64 k')).setCell ⟨H + 1, 0, none⟩ (.int .i64 e')) :=
    (((Chg.refl (fun x => x = b ∨ x = H + 1 ∨ x = Bd + 1) w).setCell (.inl (.inl rfl)) _).setCell (.inl (.inr (.inr rfl))) _).setCell (.inl (.inr (.inl rfl))) _
  have hlt : Bd + 1 < w.heap.size := (Array.getElem?_eq_some_iff.1 h.a).1
  refine ⟨rfl, ⟨heap_setCell_same _ (H + 1) 0 _ _ (.int .i64 e') e2, (heap_setCell_other _ _ _ _ (by simp; omega)).trans b2, (heap_setCell_other _ _ _ _ (by simp; omega)).trans a2, h.rd.keep fun x hx => hc.block x (by omega) (by omega)⟩, (heap_setCell_other _ _ _ _ (by simp; omega)).trans r2, hc⟩
theorem dec2_st (H Bd b o : Nat) (t : TypeId) (cs : Array Value) (v : Value) (body : List UInt8) (k e : Int) (w : World) (h : DecC w H Bd v body k e) (hH : H + 1 < Bd) (hb : b = H ∨ Bd + 1 < b) (hR : w.heap[b]? = some (.cells cs t (0, 0))) (ho : cs[o]? = some (.string (strB []))) :
    Calls Tryz.prog 47 #[.pointer (some ⟨b, o, none⟩), .pointer (some ⟨H + 1, 0, none⟩), .pointer (some ⟨Bd, 0, none⟩), .pointer (some ⟨Bd + 1, 0, none⟩)] w (ClOut H Bd b t (cs.setIfInBounds o (.string (strB (stT body k e).1))) v body (stT body k e).2.1 (stT body k e).2.2 w) := by
  have hE : w.cell? ⟨H + 1, 0, none⟩ = some (.int .i64 e) := cell_of_row _ _ 0 _ _ _ h.e
  by_cases he : e = 0
  · subst he
    rw [show stT body k 0 = decT body k 200 from if_pos rfl]
    have r1 := heap_setCell_same w b o _ _ (.string (strB (decT body k 200).1)) hR
    have e1 := (heap_setCell_other w ⟨b, o, none⟩ (H + 1) (.string (strB (decT body k 200).1)) (by simp; omega)).trans h.e
    have a1 := (heap_setCell_other w ⟨b, o, none⟩ (Bd + 1) (.string (strB (decT body k 200).1)) (by simp; omega)).trans h.a
    have e2 := (heap_setCell_other (w.setCell ⟨b, o, none⟩ (.string (strB (decT body k 200).1))) ⟨Bd + 1, 0, none⟩ (H + 1) (.int .i64 (decT body k 200).2.1) (by simp; omega)).trans e1
    refine (dec2_run (H + 1) Bd (Bd + 1) b o v _ body _ k w hE (cell_of_row _ _ 0 _ _ _ h.b) (cell_of_row _ _ 0 _ _ _ h.a) ((cell_of_row _ _ o _ _ _ hR).trans ho) h.rd (frozen_of_row _ _ _ _ _ hR) (frozen_of_row _ _ _ _ _ a1) (frozen_of_row _ _ _ _ _ e2) (by omega) (by omega) (by omega)).mono ?_
    rintro e' w' ⟨rfl, rfl⟩
    exact cl_done h hH hb hR
  · rw [stT_err he]
    refine (dec2_skip (H + 1) Bd (Bd + 1) _ e w hE he).mono ?_
    rintro e' w' ⟨rfl, rfl⟩
    refine ⟨rfl, h, ?_, Chg.refl _ _⟩
    rw [set_self _ _ _ ho]
    exact hR
theorem dec3_st (H Bd b o : Nat) (t : TypeId) (cs : Array Value) (v : Value) (body : List UInt8) (k e : Int) (w : World) (h : DecC w H Bd v body k e) (hH : H + 1 < Bd) (hb : b = H ∨ Bd + 1 < b) (hR : w.heap[b]? = some (.cells cs t (0, 0))) (ho : cs[o]? = some (.int .i64 0)) :
    Calls Tryz.prog 49 #[.pointer (some ⟨b, o, none⟩), .pointer (some ⟨H + 1, 0, none⟩), .pointer (some ⟨Bd, 0, none⟩), .pointer (some ⟨Bd + 1, 0, none⟩)] w (ClOut H Bd b t (cs.setIfInBounds o (.int .i64 (stI body k e).1)) v body (stI body k e).2.1 (stI body k e).2.2 w) := by
  have hE : w.cell? ⟨H + 1, 0, none⟩ = some (.int .i64 e) := cell_of_row _ _ 0 _ _ _ h.e
  by_cases he : e = 0
  · subst he
    rw [show stI body k 0 = decI body k from if_pos rfl]
    have r1 := heap_setCell_same w b o _ _ (.int .i64 (decI body k).1) hR
    have e1 := (heap_setCell_other w ⟨b, o, none⟩ (H + 1) (.int .i64 (decI body k).1) (by simp; omega)).trans h.e
    have a1 := (heap_setCell_other w ⟨b, o, none⟩ (Bd + 1) (.int .i64 (decI body k).1) (by simp; omega)).trans h.a
    have e2 := (heap_setCell_other (w.setCell ⟨b, o, none⟩ (.int .i64 (decI body k).1)) ⟨Bd + 1, 0, none⟩ (H + 1) (.int .i64 (decI body k).2.1) (by simp; omega)).trans e1
    refine (dec3_run (H + 1) Bd (Bd + 1) b o v _ body _ k w hE (cell_of_row _ _ 0 _ _ _ h.b) (cell_of_row _ _ 0 _ _ _ h.a) ((cell_of_row _ _ o _ _ _ hR).trans ho) h.rd (frozen_of_row _ _ _ _ _ hR) (frozen_of_row _ _ _ _ _ a1) (frozen_of_row _ _ _ _ _ e2) (by omega) (by omega) (by omega)).mono ?_
    rintro e' w' ⟨rfl, rfl⟩
    exact cl_done h hH hb hR
  · rw [stI_err he]
    refine (dec3_skip (H + 1) Bd (Bd + 1) _ e w hE he).mono ?_
    rintro e' w' ⟨rfl, rfl⟩
    refine ⟨rfl, h, ?_, Chg.refl _ _⟩
    rw [set_self _ _ _ ho]
    exact hR
/-- five cells of one row, one after the other -/
theorem row_set5 {w : World} {M : Nat} {t : TypeId} {m0 m1 m2 m3 m4 : Value} (h : w.heap[M]? = some (.cells #[m0, m1, m2, m3, m4] t (0, 0))) (a0 a1 a2 a3 a4 : Value) :
    (((((w.setCell ⟨M, 0, none⟩ a0).setCell ⟨M, 1, none⟩ a1).setCell ⟨M, 2, none⟩ a2).setCell ⟨M, 3, none⟩ a3).setCell ⟨M, 4, none⟩ a4).heap[M]? = some (.cells #[a0, a1, a2, a3, a4] t (0, 0)) := by
  have h0 := heap_setCell_same w M 0 _ _ a0 h
  have h1 := heap_setCell_same _ M 1 _ _ a1 h0
  have h2 := heap_setCell_same _ M 2 _ _ a2 h1
  have h3 := heap_setCell_same _ M 3 _ _ a3 h2
  have h4 := heap_setCell_same _ M 4 _ _ a4 h3
  simpa using h4
set_option maxRecDepth 100000 in
set_option maxHeartbeats 2000000 in
theorem dec1_any (E M : Nat) (x : Int) (m0 m1 m2 m3 m4 : Value) (w : World) (hE : w.cell? ⟨E, 0, none⟩ = some (.int .i64 x)) (hM : w.heap[M]? = some (.cells #[m0, m1, m2, m3, m4] 25 (0, 0))) :
    CallsD Tryz.prog 45 #[.pointer (some ⟨E, 0, none⟩), .pointer (some ⟨M, 0, none⟩)] .returning w fun e u' w' => u' = .returning ∧ e = .returned (.tuple #[]) ∧ Chg (· = M) w w' ∧
      w'.heap[M]? = some (.cells (if x = 0 then #[m0, m1, m2, m3, m4] else #[.string (strB []), .slice none 0 0, .string (strB []), .int .i64 0, .int .i64 0]) 25 (0, 0)) := by
  by_cases hx : x = 0
  · subst hx
    rw [if_pos rfl]
    refine (dec1_skip E M w hE).mono ?_
    rintro e u' w' ⟨rfl, rfl, rfl⟩
    exact ⟨rfl, rfl, Chg.refl _ _, hM⟩
  rw [if_neg hx]
  have b1 : (x == 0) = false := by rw [beq_eq_false_iff_ne]; exact hx
  have b2 : (x != 0) = true := by rw [bne_iff_ne]; exact hx
  have c0 : w.cell? ⟨M, 0, none⟩ = some m0 := cell_of_row _ _ 0 _ _ _ hM
  have c1 : w.cell? ⟨M, 1, none⟩ = some m1 := cell_of_row _ _ 1 _ _ _ hM
  have c2 : w.cell? ⟨M, 2, none⟩ = some m2 := cell_of_row _ _ 2 _ _ _ hM
  have c3 : w.cell? ⟨M, 3, none⟩ = some m3 := cell_of_row _ _ 3 _ _ _ hM
  have c4 : w.cell? ⟨M, 4, none⟩ = some m4 := cell_of_row _ _ 4 _ _ _ hM
  have f0 := frozen_of_row w M 0 _ _ hM
  have f1 := frozen_of_row w M 1 _ _ hM
  have f2 := frozen_of_row w M 2 _ _ hM
  have f3 := frozen_of_row w M 3 _ _ hM
  have f4 := frozen_of_row w M 4 _ _ hM
  have hr := Lib.hid (row_set5 hM (.string ⟨#[]⟩) (.slice none 0 0) (.string ⟨#[]⟩) (.int .i64 0) (.int .i64 0))
  go_enter_d Tryz.func45, Tryz.ntmps45
  go_wp2_with fail
  have hc : Chg (· = M) w (((((w.setCell ⟨M, 0, none⟩ (.string ⟨#[]⟩)).setCell ⟨M, 1, none⟩ (.slice none 0 0)).setCell ⟨M, 2, none⟩ (.string ⟨#[]⟩)).setCell ⟨M, 3, none⟩ (.int .i64 0)).setCell ⟨M, 4, none⟩ (.int .i64 0)) :=
    (((((Chg.refl (· = M) w).setCell (.inl rfl) _).setCell (.inl rfl) _).setCell (.inl rfl) _).setCell (.inl rfl) _).setCell (.inl rfl) _
  first | (go_end0; exact ⟨rfl, hc, hr.out⟩) | (go_end0; exact ⟨hc, hr.out⟩)
end Go.Proofs.YthjephhojngiaaaGreatDoor
