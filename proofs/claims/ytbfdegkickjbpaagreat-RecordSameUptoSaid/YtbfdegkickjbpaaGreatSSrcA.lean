/-
 SrcA
-/
import Derived.Test.YtbfdegkickjbpaaGreatSVer
namespace Go.Proofs.YtbfdegkickjbpaaGreat
open Go.RowKit Go.Lib Go.IntWalk Go.Sort Go.Shelf
/-- what reading gives: the value, where it goes on, the error -/
def rdS {α : Type} (dec : Int → α × Int × Int) (z : α) (s : Int × Int) : α × Int × Int :=
 if s.2 ≠ 0 then (z, s) else if (dec s.1).2.2 = 0 then ((dec s.1).1, (dec s.1).2.1, 0) else ((dec s.1).1, s.1, (dec s.1).2.2)
theorem rdS_no {α : Type} {dec : Int → α × Int × Int} {z : α} {s : Int × Int} (h : s.2 ≠ 0) : rdS dec z s = (z, s) := if_pos h
theorem rdS_go {α : Type} {dec : Int → α × Int × Int} {z : α} {k : Int} {a : α} {m e : Int} (h : dec k = (a, m, e)) : rdS dec z (k, 0) = (a, if e = 0 then (m, 0) else (k, e)) := by
 unfold rdS
 simp only [ne_eq, not_true_eq_false, if_false, h]
 split <;> rfl
abbrev rdI (l : List UInt8) : Int × Int → Int × Int × Int := rdS (decI l) 0
/-- block R holds a reader of the bytes v -/
def SrcAt (w : World) (R : Nat) (v : Value) (s : Int × Int) : Prop := w.heap[R]? = some (.cells #[v, .int .i64 s.1, .int .i64 s.2] 130 (0, 0))
theorem SrcAt.lt {w : World} {R : Nat} {v : Value} {s : Int × Int} (h : SrcAt w R v s) : R < w.heap.size := (Array.getElem?_eq_some_iff.1 h).1
theorem SrcAt.below {w w' : World} {R : Nat} {v : Value} {s : Int × Int} (h : SrcAt w R v s) (hb : Below w.heap.size w w') : SrcAt w' R v s := (hb.block R h.lt).trans h
theorem SrcAt.set1 {w : World} {R : Nat} {v : Value} {s : Int × Int} (h : SrcAt w R v s) (m : Int) : SrcAt (w.setCell ⟨R, 1, none⟩ (.int .i64 m)) R v (m, s.2) := by
 have := heap_setCell_same w R 1 _ _ (.int .i64 m) h
 unfold SrcAt
 simpa using this
theorem SrcAt.set2 {w : World} {R : Nat} {v : Value} {s : Int × Int} (h : SrcAt w R v s) (e : Int) : SrcAt (w.setCell ⟨R, 2, none⟩ (.int .i64 e)) R v (s.1, e) := by
 have := heap_setCell_same w R 2 _ _ (.int .i64 e) h
 unfold SrcAt
 simpa using this
theorem SrcAt.other {w : World} {R : Nat} {v : Value} {s : Int × Int} (h : SrcAt w R v s) {p : Addr} (hp : p.block ≠ R) {u : Value} : SrcAt (w.setCell p u) R v s := (Below.heap_setCell _ _ _ _ (fun e => hp e.symm)).trans h
set_option maxRecDepth 1000000 in
set_option maxHeartbeats 400000 in
theorem step_any (R : Nat) (v : Value) (k m e : Int) (w : World) (h : SrcAt w R v (k, 0)) :
  Calls Tryz.prog 161 #[.pointer (some ⟨R, 0, none⟩), .int .i64 m, .int .i64 e] w fun x w' => x = .returned (.bool (decide (e = 0))) ∧ SrcAt w' R v (if e = 0 then (m, 0) else (k, e)) ∧ Chg (· = R) w w' := by
 have c1 : w.cell? ⟨R, 1, none⟩ = some (.int .i64 k) := cell_of_row w R 1 _ _ _ h
 have c2 : w.cell? ⟨R, 2, none⟩ = some (.int .i64 0) := cell_of_row w R 2 _ _ _ h
 have f1 : w.frozen? ⟨R, 1, none⟩ = false := frozen_of_row w R 1 _ _ h
 have f2 : w.frozen? ⟨R, 2, none⟩ = false := frozen_of_row w R 2 _ _ h
 have H := Lib.hid h
 clear h
 by_cases he : e = 0
 ·subst he
  go_enter Tryz.func161, Tryz.ntmps161
  go_wp2_with fail
  go_ret
  exact ⟨rfl, H.out.set1 m, Chg.setCell (S := (· = R)) (p := ⟨R, 1, none⟩) (Chg.refl _ _) (.inl rfl) _⟩
 ·rw [if_neg he, decide_eq_false he]
  go_enter Tryz.func161, Tryz.ntmps161
  go_wp2_with fail
  go_ret
  exact ⟨rfl, H.out.set2 e, Chg.setCell (S := (· = R)) (p := ⟨R, 2, none⟩) (Chg.refl _ _) (.inl rfl) _⟩
set_option maxRecDepth 1000000 in
set_option maxHeartbeats 2000000 in
theorem srcInt_any (R : Nat) (v : Value) (l : List UInt8) (s : Int × Int) (w : World) (h : SrcAt w R v s) (hv : RdB w (· < R) v l) :
  Calls Tryz.prog 60 #[.pointer (some ⟨R, 0, none⟩)] w fun x w' => x = .returned (.int .i64 (rdI l s).1) ∧ SrcAt w' R v (rdI l s).2 ∧ Chg (· = R) w w' := by
 obtain ⟨k, er⟩ := s
 have hR := h.lt
 have c0 : w.cell? ⟨R, 0, none⟩ = some v := cell_of_row w R 0 _ _ _ h
 have c1 : w.cell? ⟨R, 1, none⟩ = some (.int .i64 k) := cell_of_row w R 1 _ _ _ h
 have c2 : w.cell? ⟨R, 2, none⟩ = some (.int .i64 er) := cell_of_row w R 2 _ _ _ h
 have H := Lib.hid h
 have HV := Lib.hid hv
 clear h hv
 by_cases he : er = 0
 case neg =>
  rw [show rdI l (k, er) = (0, k, er) from rdS_no he]
  go_enter Tryz.func60, Tryz.ntmps60
  go_wp2_with fail
  go_ret
  exact ⟨rfl, H.out, Chg.refl _ _⟩
 case pos =>
  subst he
  rcases hd : decI l k with ⟨n, m, e⟩
  rw [show rdI l (k, 0) = (n, if e = 0 then (m, 0) else (k, e)) from rdS_go hd]
  have KI : ∀ W, Below w.heap.size w W → Calls Tryz.prog 160 #[v, .int .i64 k] W (Int3 (n, m, e) W) := fun W hW => by
   rw [← hd]
   exact int_any (· < R) v l k W (Rd.keep HV.out (fun b (hb : b < R) => hW.block b (by omega)))
  generalize hst : (if e = 0 then (m, (0 : Int)) else (k, e)) = st
  have HS : Hid (∀ W, SrcAt W R v (k, 0) → Calls Tryz.prog 161 #[.pointer (some ⟨R, 0, none⟩), .int .i64 m, .int .i64 e] W fun x w' => (∃ b, x = .returned (.bool b)) ∧ SrcAt w' R v st ∧ Chg (· = R) W w') := Lib.hid (fun W h => (step_any R v k m e W h).mono fun _ _ ⟨h1, h2, h3⟩ => ⟨⟨_, h1⟩, by rw [← hst]; exact h2, h3⟩)
  clear hst
  clear hd
  go_enter Tryz.func60, Tryz.ntmps60
  go_wp2_with fail
  refine wp_region_noPanic ?_
  refine wp_region_held_drew (S := (fun w' => Below w.heap.size w w')) (by kernel_rfl) ?_ (fun hHeld => ?_)
  ·exact (Below.refl _ _).drew
  refine heldTake 0 (some 12) (v := ?_) rfl rfl (by kernel_rfl) (by kernel_rfl) (by kernel_rfl) (by rfl) hHeld (fun _ _ _ h => h) ?_ ?_
  rotate_left
  ·intro w' hSw; (try dsimp only at hSw); go_simp <;> with_reducible rfl
  simp only [Act.put, List.setIfInBounds_toArray, List.set_cons_zero, List.set_cons_succ]
  refine heldTake 1 (some 13) (v := ?_) rfl rfl (by kernel_rfl) (by kernel_rfl) (by kernel_rfl) (by rfl) hHeld (fun _ _ _ h => h) ?_ ?_
  rotate_left
  ·intro w' hSw; (try dsimp only at hSw); go_simp <;> with_reducible rfl
  simp only [Act.put, List.setIfInBounds_toArray, List.set_cons_zero, List.set_cons_succ]
  refine heldTake 2 (some 14) (v := ?_) rfl rfl (by kernel_rfl) (by kernel_rfl) (by kernel_rfl) (by rfl) hHeld (fun _ _ _ h => h) ?_ ?_
  rotate_left
  ·intro w' hSw; (try dsimp only at hSw); go_simp <;> with_reducible rfl
  simp only [Act.put, List.setIfInBounds_toArray, List.set_cons_zero, List.set_cons_succ]
  refine heldTake 3 (some 15) (v := ?_) rfl rfl (by kernel_rfl) (by kernel_rfl) (by kernel_rfl) (by rfl) hHeld (fun _ _ _ h => h) ?_ ?_
  rotate_left
  ·intro w' hSw; (try dsimp only at hSw); have q0 := (World.cell?_of_block (w := w) (a := ⟨R, 0, none⟩) (hSw.block R hR)).trans c0; go_simp <;> with_reducible rfl
  simp only [Act.put, List.setIfInBounds_toArray, List.set_cons_zero, List.set_cons_succ]
  refine heldTake 4 (some 16) (v := ?_) rfl rfl (by kernel_rfl) (by kernel_rfl) (by kernel_rfl) (by rfl) hHeld (fun _ _ _ h => h) ?_ ?_
  rotate_left
  ·intro w' hSw; (try dsimp only at hSw); go_simp <;> with_reducible rfl
  simp only [Act.put, List.setIfInBounds_toArray, List.set_cons_zero, List.set_cons_succ]
  refine heldTake 5 (some 17) (v := ?_) rfl rfl (by kernel_rfl) (by kernel_rfl) (by kernel_rfl) (by rfl) hHeld (fun _ _ _ h => h) ?_ ?_
  rotate_left
  ·intro w' hSw; (try dsimp only at hSw); go_simp <;> with_reducible rfl
  simp only [Act.put, List.setIfInBounds_toArray, List.set_cons_zero, List.set_cons_succ]
  refine heldTake 6 (some 18) (v := ?_) rfl rfl (by kernel_rfl) (by kernel_rfl) (by kernel_rfl) (by rfl) hHeld (fun _ _ _ h => h) ?_ ?_
  rotate_left
  ·intro w' hSw; (try dsimp only at hSw); go_simp <;> with_reducible rfl
  simp only [Act.put, List.setIfInBounds_toArray, List.set_cons_zero, List.set_cons_succ]
  refine heldTake 7 (some 19) (v := ?_) rfl rfl (by kernel_rfl) (by kernel_rfl) (by kernel_rfl) (by rfl) hHeld (fun _ _ _ h => h) ?_ ?_
  rotate_left
  ·intro w' hSw; (try dsimp only at hSw); have q0 := (World.cell?_of_block (w := w) (a := ⟨R, 1, none⟩) (hSw.block R hR)).trans c1; go_simp <;> with_reducible rfl
  simp only [Act.put, List.setIfInBounds_toArray, List.set_cons_zero, List.set_cons_succ]
  refine heldCall 8 (some 20) (f := ?_) (args := ?_) rfl rfl (by kernel_rfl) (by rfl) ?_ ?_
  rotate_left 2
  ·go_simp <;> first | (constructor <;> with_reducible rfl) | with_reducible rfl
  (with_reducible refine (KI _ (Below.refl _ _).drew).mono ?_)
  rintro _ _ ⟨rfl, rfl⟩
  refine ⟨_, rfl, keepAnd ?_ (fun hNew => ?_)⟩
  ·exact (Below.refl _ _).drew
  clear hHeld
  have hHeld := hNew
  clear hNew
  simp only [Act.put, List.setIfInBounds_toArray, List.set_cons_zero, List.set_cons_succ]
  refine heldTake 9 (some 11) (v := ?_) rfl rfl (by kernel_rfl) (by kernel_rfl) (by kernel_rfl) (by rfl) hHeld (fun _ _ _ h => h) ?_ ?_
  rotate_left
  ·intro w' hSw; (try dsimp only at hSw); go_simp <;> with_reducible rfl
  simp only [Act.put, List.setIfInBounds_toArray, List.set_cons_zero, List.set_cons_succ]
  refine heldTake 10 (some 21) (v := ?_) rfl rfl (by kernel_rfl) (by kernel_rfl) (by kernel_rfl) (by rfl) hHeld (fun _ _ _ h => h) ?_ ?_
  rotate_left
  ·intro w' hSw; (try dsimp only at hSw); go_simp <;> with_reducible rfl
  simp only [Act.put, List.setIfInBounds_toArray, List.set_cons_zero, List.set_cons_succ]
  refine heldTake 11 (some 22) (v := ?_) rfl rfl (by kernel_rfl) (by kernel_rfl) (by kernel_rfl) (by rfl) hHeld (fun _ _ _ h => h) ?_ ?_
  rotate_left
  ·intro w' hSw; (try dsimp only at hSw); go_simp <;> with_reducible rfl
  simp only [Act.put, List.setIfInBounds_toArray, List.set_cons_zero, List.set_cons_succ]
  refine heldTake 12 (some 23) (v := ?_) rfl rfl (by kernel_rfl) (by kernel_rfl) (by kernel_rfl) (by rfl) hHeld (fun _ _ _ h => h) ?_ ?_
  rotate_left
  ·intro w' hSw; (try dsimp only at hSw); go_simp <;> with_reducible rfl
  simp only [Act.put, List.setIfInBounds_toArray, List.set_cons_zero, List.set_cons_succ]
  refine heldTake 13 (some 3) (v := ?_) rfl rfl (by kernel_rfl) (by kernel_rfl) (by kernel_rfl) (by rfl) hHeld (fun _ _ _ h => h) ?_ ?_
  rotate_left
  ·intro w' hSw; (try dsimp only at hSw); go_simp <;> with_reducible rfl
  simp only [Act.put, List.setIfInBounds_toArray, List.set_cons_zero, List.set_cons_succ]
  refine heldTake 14 (some 4) (v := ?_) rfl rfl (by kernel_rfl) (by kernel_rfl) (by kernel_rfl) (by rfl) hHeld (fun _ _ _ h => h) ?_ ?_
  rotate_left
  ·intro w' hSw; (try dsimp only at hSw); go_simp <;> with_reducible rfl
  simp only [Act.put, List.setIfInBounds_toArray, List.set_cons_zero, List.set_cons_succ]
  refine heldTake 15 (some 5) (v := ?_) rfl rfl (by kernel_rfl) (by kernel_rfl) (by kernel_rfl) (by rfl) hHeld (fun _ _ _ h => h) ?_ ?_
  rotate_left
  ·intro w' hSw; (try dsimp only at hSw); go_simp <;> with_reducible rfl
  simp only [Act.put, List.setIfInBounds_toArray, List.set_cons_zero, List.set_cons_succ]
  refine wpAnyH_done (by kernel_rfl) ?_ _
  refine NoPanic.normal ?_
  clear hHeld
  go_wp2_with fail
  (with_reducible refine (HS.out _ (SrcAt.below H.out (Below.refl _ _).drew)).mono ?_)
  rintro _ w2 ⟨⟨b2, rfl⟩, hs2, hc2⟩
  go_wp2_with fail
  go_ret
  exact ⟨rfl, hs2, (Chg.refl _ _).drew.trans hc2 (fun _ _ h => h)⟩
end Go.Proofs.YtbfdegkickjbpaaGreat
