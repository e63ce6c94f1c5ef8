/-
  Disks: Append, Remove, Rename.
-/
import Derived.Test.YtooojgokkigncaaDiskG
import Derived.Test.YtooojgokkigncaaMem4
namespace Go.Proofs.Ytooojgokkigncaa
open Go.RowKit Go.Lib Go.IntWalk

theorem own_setCell {w : World} {base : Nat} {e : TypeId} {size n : Nat} {v : Value} {cs : List Value} (h : w.ownsRow base e size v n cs) {p : Addr} (hp : v.ownBlock ≠ some p.block) (u : Value) : (w.setCell p u).ownsRow base e size v n cs :=
  World.ownsRow.kept (row := some p.block) h ⟨rfl, rfl, rfl, by simp [World.setCell], fun k _ hne => Below.heap_setCell _ _ _ _ (fun e => hne (by rw [e]))⟩ (.inr hp)
theorem own_below {w w' : World} {base : Nat} {e : TypeId} {size n : Nat} {v : Value} {cs : List Value} (h : w.ownsRow base e size v n cs) (hb : Below w.heap.size w w') : w'.ownsRow base e size v n cs :=
  World.ownsRow.kept (row := none) h ⟨hb.os, hb.tape, hb.output, hb.size, fun k hk _ => hb.block k hk⟩ (by cases v.ownBlock <;> simp)
theorem own_block {w : World} {base : Nat} {e : TypeId} {size n : Nat} {v : Value} {cs : List Value} (h : w.ownsRow base e size v n cs) {b : Nat} (hb : some b = v.ownBlock) : base ≤ b ∧ ∃ cur, w.heap[b]? = some (.cells cur e (0, 0)) := by
  rcases h.2 with ⟨rfl, h0⟩ | ⟨g, cap, cur, rfl, hB, hg, hnc, hcm, hcs, htake⟩
  · cases hb
  · simp only [Value.ownBlock, Option.some.injEq] at hb
    subst hb
    exact ⟨hB, cur, hg⟩
theorem own_not_disk {w : World} {base D : Nat} {size n : Nat} {v : Value} {cs : List Value} (h : w.ownsRow base 92 size v n cs) {xs : Array Value} (hD : w.heap[D]? = some (.cells xs 80 (0, 0))) : some D ≠ v.ownBlock := by
  intro e
  obtain ⟨_, cur, hc⟩ := own_block h e
  rw [hD] at hc
  simp only [Option.some.injEq, Obj.cells.injEq] at hc
  exact absurd hc.2.1 (by decide)
theorem opC_one (p : DOp × Value) (h : p.2.oneCell' = true) : ∀ u ∈ opC p, u.oneCell' = true := by
  intro u hu
  simp only [opC, List.mem_cons, List.not_mem_nil, or_false] at hu
  rcases hu with rfl | rfl | rfl | rfl <;> first | rfl | exact h
theorem infoO : (Try.prog.info? 92).map (fun i => (i.zero, i.size, i.bytes)) = some (some (.agg #[.int .i64 0, .string (strB []), .string (strB []), .slice none 0 0]), 4, 64) := by kernel_rfl
theorem DSz.push {Z : Nat} {fm : FM} {os : List DOp} {o : DOp} (h : DSz Z fm os) (h1 : o.kind ≤ 2) (h2 : o.name.length ≤ maxLen) (h3 : o.to.length ≤ maxLen) : DSz (Z + o.data.length + 1) fm (os ++ [o]) := by
  have hs : dsum (os ++ [o]) = dsum os + o.data.length := by simp [dsum]
  refine ⟨fun key l hl => ?_, ?_, fun x hx => ?_⟩
  · have := h.file key l hl; omega
  · have := h.all; omega
  · rcases List.mem_append.1 hx with hx | hx
    · exact h.op x hx
    · rw [List.mem_singleton] at hx; subst hx; exact ⟨h1, h2, h3⟩

/-- one operation more -/
def DPush (B Z D : Nat) (P : Option Nat) (fm : FM) (os : List DOp) (w0 w : World) : Prop :=
  ∃ P', DiskAt B Z w D P' fm os ∧ (P' = P ∨ ∃ p, P' = some p ∧ w0.heap.size ≤ p) ∧ Chg (fun b => b = D ∨ some b = P) w0 w
theorem push_done {B Z D : Nat} {fm : FM} {os : List DOp} {M n : Nat} {g : List UInt8 → Option Value} {pv v' : Value} {w0 w w' : World} {ps : List (DOp × Value)} {o : DOp} {dv : Value}
    (hb0 : Below w0.heap.size w0 w) (hB0 : B ≤ w0.heap.size)
    (hD : w.heap[D]? = some (.cells #[.map (some M), pv] 80 (0, 0))) (hBD : B ≤ D) (hBM : B ≤ M) (hM : MapIs w M n g) (hn : n + os.length ≤ Z) (hG : GRd B w g fm)
    (hps : ps.map (·.1) = os) (hO : OpsD B w ps) (hown0 : w0.ownsRow B 92 4 pv ps.length (opCs ps)) (hdv : DatB B w dv o.data) (hZ : DSz Z fm os) (h1 : o.kind ≤ 2) (h2 : o.name.length ≤ maxLen) (h3 : o.to.length ≤ maxLen)
    (hown' : w'.ownsRow B 92 4 v' (ps.length + 1) (opCs ps ++ opC (o, dv))) (hg : w.grownBy w' pv.ownBlock) (hv : v'.ownBlock = pv.ownBlock ∨ v'.ownBlock = some w.heap.size) :
    DPush B (Z + o.data.length + 1) D pv.ownBlock fm (os ++ [o]) w0 (w'.setCell ⟨D, 1, none⟩ v') := by
  have hown : w.ownsRow B 92 4 pv ps.length (opCs ps) := own_below hown0 hb0
  have hnd := own_not_disk hown hD
  have hDl := (Array.getElem?_eq_some_iff.1 hD).1
  have hD' := (hg.block D hDl hnd).trans hD
  have hC : Chg (fun b => b = D ∨ some b = pv.ownBlock) w (w'.setCell ⟨D, 1, none⟩ v') := Chg.setCell (S := fun b => b = D ∨ some b = pv.ownBlock) ((Chg.of_grown hg).mono (fun i hi => Or.inr hi)) (.inl (Or.inl rfl)) _
  have hBw : B ≤ w.heap.size := by have := hb0.size; omega
  have hbr : ∀ b, BR B w b → ¬ (b = D ∨ some b = pv.ownBlock) := by
    rintro b hb (rfl | e)
    · exact BR_not_cells hBD hD (by decide) hb rfl
    · obtain ⟨e1, cur, e2⟩ := own_block hown e
      exact BR_not_cells e1 e2 (by decide) hb rfl
  have hnM : ¬ (M = D ∨ some M = pv.ownBlock) := by
    obtain ⟨es, clock, hm⟩ := hM.obj
    rintro (rfl | e)
    · rw [hD] at hm; cases hm
    · obtain ⟨e1, cur, e2⟩ := own_block hown e
      rw [e2] at hm; cases hm
  refine ⟨v'.ownBlock, ⟨M, n, g, v', ?_, hBD, hBM, hM.chg hC hnM, ?_, hG.chg hBw hC hbr, ⟨ps ++ [(o, dv)], ?_, ?_, ?_⟩, hZ.push h1 h2 h3, rfl⟩, ?_, ?_⟩
  · have := heap_setCell_same w' D 1 _ _ v' hD'
    simpa using this
  · rw [List.length_append]; simp; omega
  · rw [List.map_append, hps]; rfl
  · have e : opCs (ps ++ [(o, dv)]) = opCs ps ++ opC (o, dv) := by simp [opCs]
    rw [e, List.length_append]
    refine own_setCell hown' ?_ _
    intro e
    rcases hv with hv | hv
    · exact hnd (by rw [← hv]; exact e.symm)
    · rw [hv] at e; injection e with e; have e : w.heap.size = D := e; omega
  · intro p hp
    rcases List.mem_append.1 hp with hp | hp
    · exact (hO p hp).chg hBw hC hbr
    · rw [List.mem_singleton] at hp; subst hp; exact hdv.chg hBw hC hbr
  · rcases hv with hv | hv
    · exact .inl hv
    · exact .inr ⟨_, hv, hb0.size⟩
  · exact (Chg.of_below hb0 _).trans hC (fun _ _ h => h)

/-- the result of an operation that is buffered -/
def DOut (B Z D : Nat) (P : Option Nat) (fm : FM) (os : List DOp) (r : Int) (w0 : World) (e : Ending) (w : World) : Prop := e = .returned (.int .i64 r) ∧ DPush B Z D P fm os w0 w
theorem DPush.same {B Z D : Nat} {P : Option Nat} {fm : FM} {os : List DOp} {w w' : World} (h : DiskAt B Z w D P fm os) (hB : B ≤ w.heap.size) (hb : Below w.heap.size w w') (Z' : Nat) (hZ : Z ≤ Z') : DPush B Z' D P fm os w w' :=
  ⟨P, (h.below hB hb).mono hZ, .inl rfl, Chg.of_below hb _⟩

set_option maxHeartbeats 1000000 in
theorem dappend_bad (B Z D : Nat) (P : Option Nat) (fm : FM) (os : List DOp) (nm : List UInt8) (v : Value) (w : World) (hB : B ≤ w.heap.size) (hD : DiskAt B Z w D P fm os) (hw : wordF nm = false) (Z' : Nat) (hZ : Z ≤ Z') :
    Calls Try.prog 23 #[.pointer (some ⟨D, 0, none⟩), .string (strB nm), v] w (DOut B Z' D P fm os 8 w) := by
  have CW := Lib.hid (dword_any nm w)
  have HW := Lib.hid hw
  clear hw
  go_enter Try.func23, Try.ntmps23
  go_wp2_with fail
  (with_reducible refine CW.out.mono ?_)
  rintro e w1 ⟨rfl, hb1⟩
  rw [HW.out]
  go_wp2_with fail
  go_ret
  exact ⟨rfl, DPush.same hD hB hb1 Z' hZ⟩

set_option maxRecDepth 100000 in
set_option maxHeartbeats 2000000 in
theorem dappend_ok (B Z D : Nat) (P : Option Nat) (fm : FM) (os : List DOp) (nm : List UInt8) (v : Value) (data : List UInt8) (w : World) (hB : B ≤ w.heap.size) (hD : DiskAt B Z w D P fm os) (hw : wordF nm = true) (hv : RdB w (· < w.heap.size) v data) (hdl : data.length ≤ 1099511627776) (hZ : Z ≤ 1099511627776) :
    Calls Try.prog 23 #[.pointer (some ⟨D, 0, none⟩), .string (strB nm), v] w (DOut B (Z + data.length + 1) D P fm (os ++ [⟨0, nm, [], data⟩]) 0 w) := by
  have CW := Lib.hid (dword_any nm w)
  have HW := Lib.hid hw
  have hnl : nm.length ≤ maxLen := by
    unfold wordF at hw; simp only [Bool.and_eq_true, decide_eq_true_eq] at hw; unfold maxLen; omega
  clear hw
  have hDat := hD
  obtain ⟨M, n, g, pv, hb, hBD, hBM, hM, hn, hG, ⟨ps, hps, hown, hO⟩, hZs, rfl⟩ := hD
  have hpl : ps.length ≤ Z := by have := congrArg List.length hps; rw [List.length_map] at this; omega
  have HB := Lib.hid hb
  have HPS := Lib.hid hps
  have hDl : D < w.heap.size := (Array.getElem?_eq_some_iff.1 hb).1
  obtain ⟨i0, hi, hz0, hz1, hz2⟩ := info_parts infoO
  have HI := Lib.hid hi
  have HZ0 := Lib.hid hz0
  have HZ1 := Lib.hid hz1
  have HZ2 := Lib.hid hz2
  clear hi hz0 hz1 hz2 hb hps
  go_enter Try.func23, Try.ntmps23
  go_wp2_with fail
  (with_reducible refine CW.out.mono ?_)
  rintro e w1 ⟨rfl, hb1⟩
  rw [HW.out]
  have k1 : w1.cell? ⟨D, 1, none⟩ = some pv := cell_of_row w1 D 1 _ _ _ ((hb1.block D hDl).trans HB.out)
  go_wp2_with fail
  refine wp_region_noPanic ?_
  refine beginT (S := (fun w' => w'.cell? ⟨D, 1, none⟩ = some pv)) 13 (by kernel_rfl) ?_ (fun hHeld => ?_)
  · exact k1
  refine takeT 0 (some 12) (v := ?_) rfl rfl (by kernel_rfl) (by kernel_rfl) (by kernel_rfl) (by kernel_rfl) (by rfl) hHeld (fun _ _ _ h => h) ?_ ?_
  rotate_left
  · intro w' hSw; (try dsimp only at hSw); go_simp <;> with_reducible rfl
  simp only [Act.put, List.setIfInBounds_toArray, List.set_cons_zero, List.set_cons_succ]
  refine takeT 1 (some 13) (v := ?_) rfl rfl (by kernel_rfl) (by kernel_rfl) (by kernel_rfl) (by kernel_rfl) (by rfl) hHeld (fun _ _ _ h => h) ?_ ?_
  rotate_left
  · intro w' hSw; (try dsimp only at hSw); go_simp <;> with_reducible rfl
  simp only [Act.put, List.setIfInBounds_toArray, List.set_cons_zero, List.set_cons_succ]
  refine takeT 2 (some 14) (v := ?_) rfl rfl (by kernel_rfl) (by kernel_rfl) (by kernel_rfl) (by kernel_rfl) (by rfl) hHeld (fun _ _ _ h => h) ?_ ?_
  rotate_left
  · intro w' hSw; (try dsimp only at hSw); go_simp <;> with_reducible rfl
  simp only [Act.put, List.setIfInBounds_toArray, List.set_cons_zero, List.set_cons_succ]
  refine takeT 3 (some 15) (v := ?_) rfl rfl (by kernel_rfl) (by kernel_rfl) (by kernel_rfl) (by kernel_rfl) (by rfl) hHeld (fun _ _ _ h => h) ?_ ?_
  rotate_left
  · intro w' hSw; (try dsimp only at hSw); go_simp <;> with_reducible rfl
  simp only [Act.put, List.setIfInBounds_toArray, List.set_cons_zero, List.set_cons_succ]
  refine takeT 4 (some 16) (v := ?_) rfl rfl (by kernel_rfl) (by kernel_rfl) (by kernel_rfl) (by kernel_rfl) (by rfl) hHeld (fun _ _ _ h => h) ?_ ?_
  rotate_left
  · intro w' hSw; (try dsimp only at hSw); go_simp <;> with_reducible rfl
  simp only [Act.put, List.setIfInBounds_toArray, List.set_cons_zero, List.set_cons_succ]
  refine takeT 5 (some 17) (v := ?_) rfl rfl (by kernel_rfl) (by kernel_rfl) (by kernel_rfl) (by kernel_rfl) (by rfl) hHeld (fun _ _ _ h => h) ?_ ?_
  rotate_left
  · intro w' hSw; (try dsimp only at hSw); go_simp <;> with_reducible rfl
  simp only [Act.put, List.setIfInBounds_toArray, List.set_cons_zero, List.set_cons_succ]
  refine takeT 6 (some 18) (v := ?_) rfl rfl (by kernel_rfl) (by kernel_rfl) (by kernel_rfl) (by kernel_rfl) (by rfl) hHeld (fun _ _ _ h => h) ?_ ?_
  rotate_left
  · intro w' hSw; (try dsimp only at hSw); go_simp <;> with_reducible rfl
  simp only [Act.put, List.setIfInBounds_toArray, List.set_cons_zero, List.set_cons_succ]
  refine callT 7 (some 19) (f := ?_) (args := ?_) rfl rfl (by kernel_rfl) (by rfl) ?_ ?_
  rotate_left 2
  · go_simp <;> first | (constructor <;> with_reducible rfl) | with_reducible rfl
  (with_reducible refine (clone_any v data _ ?_ hdl).mono ?_)
  · exact Rd.drew (hv.below hb1)
  rintro e w2 ⟨vd, rfl, hOd, hb2⟩
  obtain ⟨Ad, cd, rfl, j1, j2, j3⟩ := Rd.open_ hOd.rd
  clear j3 j2
  refine ⟨_, rfl, keepAnd ?_ (fun hNew => ?_)⟩
  · intro _; exact (World.cell?_of_block (hb2.block D (by have := hb1.size; simp; omega))).trans k1
  have hNew := hNew (by decide)
  clear hHeld
  have hHeld := hNew
  clear hNew
  simp only [Act.put, List.setIfInBounds_toArray, List.set_cons_zero, List.set_cons_succ]
  have hbw2 : Below w.heap.size w w2 := hb1.trans ((Below.undrew hb2).mono hb1.size)
  have hDat2 := hDat.below hB hbw2
  have hbD2 : w2.heap[D]? = some (.cells #[.map (some M), pv] 80 (0, 0)) := (hbw2.block D hDl).trans HB.out
  have hbD3 : (w2.alloc (.cells #[.int .i64 0, .string (strB nm), .string ⟨#[]⟩, .slice Ad data.length cd] 92)).heap[D]? = some (.cells #[.map (some M), pv] 80 (0, 0)) := (Below.heap_alloc w2 _ D (hDat2.lt).2).trans hbD2
  have hown2 : w2.ownsRow B 92 4 pv ps.length (opCs ps) := own_below hown hbw2
  have hown3 : (w2.alloc (.cells #[.int .i64 0, .string (strB nm), .string ⟨#[]⟩, .slice Ad data.length cd] 92)).ownsRow B 92 4 pv ps.length (opCs ps) := own_alloc hown2 _
  have hnew : Rd (w2.alloc (.cells #[.int .i64 0, .string (strB nm), .string ⟨#[]⟩, .slice Ad data.length cd] 92)) (· = w2.heap.size) 4 (.slice (some ⟨w2.heap.size, 0, none⟩) 1 1) 1 (opC (⟨0, nm, [], data⟩, .slice Ad data.length cd)) := Rd.new w2 (opC (⟨0, nm, [], data⟩, .slice Ad data.length cd)) 92 4 1 rfl (by unfold maxLen; omega)
  have hBs2 : B ≤ w2.heap.size := by have := hbw2.size; omega
  refine takeT 8 (some 20) (v := ?_) rfl rfl (by kernel_rfl) (by kernel_rfl) (by kernel_rfl) (by kernel_rfl) (by rfl) hHeld (fun _ _ _ h => h) ?_ ?_
  rotate_left
  · intro w' hSw; (try dsimp only at hSw); go_simp <;> with_reducible rfl
  simp only [Act.put, List.setIfInBounds_toArray, List.set_cons_zero, List.set_cons_succ]
  have hNew : (fun w' => w'.cell? ⟨D, 1, none⟩ = some pv) (w2.alloc (.cells #[.int .i64 0, .string (strB nm), .string ⟨#[]⟩, .slice Ad data.length cd] 92)) := by exact (cell_of_row _ D 1 _ _ _ ((Below.heap_alloc w2 _ D (hDat2.lt).2).trans hbD2))
  refine runT 9 (some 21) (v := Value.slice (some ⟨w2.heap.size, 0, none⟩) 1 1) (w' := w2.alloc (.cells #[.int .i64 0, .string (strB nm), .string ⟨#[]⟩, .slice Ad data.length cd] 92)) rfl rfl (by kernel_rfl) (by rfl) ?_ (fun _ => hNew) ?_
  · go_simp <;> with_reducible rfl
  clear hHeld
  have hHeld := hNew
  clear hNew
  simp only [Act.put, List.setIfInBounds_toArray, List.set_cons_zero, List.set_cons_succ]
  refine opT 10 rfl (by kernel_rfl) (by rfl) ?_
  refine wp_append_app _ (.tmp 16) (.tmp 21) 78 rfl B 92 i0 _ 4 64 Try.underlying78 HI.out HZ0.out HZ1.out HZ2.out rfl (by omega) pv ps.length (opCs ps) rfl (.inl hown3) (· = w2.heap.size) _ 1 (opC (⟨0, nm, [], data⟩, .slice Ad data.length cd)) rfl hnew (opC_one _ rfl) (by unfold maxLen; omega) (by omega) (by simp; omega) ?_
  intro v' w3 _ hO3 hg3 hb3 hv3
  have hO3 := hO3 (.inl (by omega))
  have hD3 : w3.heap[D]? = some (.cells #[.map (some M), pv] 80 (0, 0)) := (hg3.block D (by simp; have := hDat2.lt.2; omega) (own_not_disk hown3 hbD3)).trans hbD3
  have kf : w3.frozen? ⟨D, 1, none⟩ = false := frozen_of_row w3 D 1 _ _ hD3
  have kc : w3.cell? ⟨D, 1, none⟩ = some pv := cell_of_row w3 D 1 _ _ _ hD3
  obtain ⟨A3, c3, rfl, z1, z2, z3⟩ := Rd.open_ (Rd.of_own hO3)
  clear z3 z2
  refine keepAnd ?_ (fun hNew => ?_)
  · intro _; exact cell_of_row _ D 1 _ _ _ hD3
  have hNew := hNew (by decide)
  clear hHeld
  have hHeld := hNew
  clear hNew
  simp only [Act.put, List.setIfInBounds_toArray, List.set_cons_zero, List.set_cons_succ]
  refine runT 11 (some 23) (v := ?_) (w' := _) rfl rfl (by kernel_rfl) (by rfl) ?_ (fun _ => hHeld) ?_
  rotate_left
  · go_simp <;> with_reducible rfl
  simp only [Act.put, List.setIfInBounds_toArray, List.set_cons_zero, List.set_cons_succ]
  refine takeT 12 (some 24) (v := ?_) rfl rfl (by kernel_rfl) (by kernel_rfl) (by kernel_rfl) (by kernel_rfl) (by rfl) hHeld (fun _ _ _ h => h) ?_ ?_
  rotate_left
  · intro w' hSw; (try dsimp only at hSw); go_simp <;> with_reducible rfl
  simp only [Act.put, List.setIfInBounds_toArray, List.set_cons_zero, List.set_cons_succ]
  refine skipRunT 13 none (w' := w3.setCell ⟨D, 1, none⟩ (.slice A3 (ps.length + 1) c3)) rfl rfl (by kernel_rfl) (by rfl) ?_ (fun h => absurd rfl h) ?_
  · go_simp <;> with_reducible rfl
  clear hHeld
  simp only [Act.put]
  refine doneT (by kernel_rfl) ?_ _
  refine NoPanic.normal ?_
  go_wp2_with fail
  go_ret
  refine ⟨rfl, ?_⟩
  have hb3' : Below w.heap.size w (w2.alloc (.cells #[.int .i64 0, .string (strB nm), .string ⟨#[]⟩, .slice Ad data.length cd] 92)) := hbw2.trans ((Below.of_alloc _).mono hbw2.size)
  exact push_done (o := ⟨0, nm, [], data⟩) (dv := .slice Ad data.length cd) hb3' hB hbD3 hBD hBM (hM.chg (Chg.of_below hb3' (fun _ => False)) (fun h => h)) hn (hG.below hB hb3') HPS.out (hO.chg hB (Chg.of_below hb3' (fun _ => False)) (fun _ _ h => h)) hown ((DatB.of_own hOd).alloc hBs2 _) hZs (by simp) hnl (by simp [maxLen]) hO3 hg3 hv3

set_option maxRecDepth 100000 in
set_option maxHeartbeats 2000000 in
theorem dremove_no (B Z D : Nat) (P : Option Nat) (fm : FM) (os : List DOp) (nm : List UInt8) (w : World) (hB : B ≤ w.heap.size) (hD : DiskAt B Z w D P fm os) (hk : nm.length ≤ maxLen) (hZ : Z ≤ 1099511627776) (hx : (viewF fm os nm).isSome = false) (Z' : Nat) (hZ' : Z ≤ Z') :
    Calls Try.prog 24 #[.pointer (some ⟨D, 0, none⟩), .string (strB nm)] w (DOut B Z' D P fm os 11 w) := by
  have CX := Lib.hid (dexists_any B Z D fm os nm w hB hD.rd hZ hk)
  have HX := Lib.hid hx
  clear hx
  go_enter Try.func24, Try.ntmps24
  go_wp2_with fail
  (with_reducible refine CX.out.mono ?_)
  rintro e w1 ⟨rfl, hb1⟩
  rw [HX.out]
  go_wp2_with fail
  go_ret
  exact ⟨rfl, DPush.same hD hB hb1 Z' hZ'⟩
set_option maxRecDepth 100000 in
set_option maxHeartbeats 2000000 in
theorem dremove_ok (B Z D : Nat) (P : Option Nat) (fm : FM) (os : List DOp) (nm : List UInt8) (w : World) (hB : B ≤ w.heap.size) (hD : DiskAt B Z w D P fm os) (hk : nm.length ≤ maxLen) (hZ : Z ≤ 1099511627776) (hx : (viewF fm os nm).isSome = true) :
    Calls Try.prog 24 #[.pointer (some ⟨D, 0, none⟩), .string (strB nm)] w (DOut B (Z + 1) D P fm (os ++ [⟨1, nm, [], []⟩]) 0 w) := by
  have CX := Lib.hid (dexists_any B Z D fm os nm w hB hD.rd hZ hk)
  have HX := Lib.hid hx
  clear hx
  have hDat := hD
  obtain ⟨M, n, g, pv, hb, hBD, hBM, hM, hn, hG, ⟨ps, hps, hown, hO⟩, hZs, rfl⟩ := hD
  have hpl : ps.length ≤ Z := by have := congrArg List.length hps; rw [List.length_map] at this; omega
  have HB := Lib.hid hb
  have HPS := Lib.hid hps
  have hDl : D < w.heap.size := (Array.getElem?_eq_some_iff.1 hb).1
  obtain ⟨i0, hi, hz0, hz1, hz2⟩ := info_parts infoO
  have HI := Lib.hid hi
  have HZ0 := Lib.hid hz0
  have HZ1 := Lib.hid hz1
  have HZ2 := Lib.hid hz2
  clear hi hz0 hz1 hz2 hb hps
  go_enter Try.func24, Try.ntmps24
  go_wp2_with fail
  (with_reducible refine CX.out.mono ?_)
  rintro e w1 ⟨rfl, hb1⟩
  rw [HX.out]
  obtain ⟨w2, rfl⟩ : ∃ w2, w2 = w1 := ⟨_, rfl⟩
  have hbw2 := hb1
  have hbD : w2.heap[D]? = some (.cells #[.map (some M), pv] 80 (0, 0)) := (hbw2.block D hDl).trans HB.out
  have k1 : w2.cell? ⟨D, 1, none⟩ = some pv := cell_of_row w2 D 1 _ _ _ hbD
  have hDat2 := hDat.below hB hbw2
  have hbD3 : (w2.alloc (.cells #[.int .i64 1, .string (strB nm), .string (strB []), .slice none 0 0] 92)).heap[D]? = some (.cells #[.map (some M), pv] 80 (0, 0)) := (Below.heap_alloc w2 _ D (hDat2.lt).2).trans hbD
  have hown2 : w2.ownsRow B 92 4 pv ps.length (opCs ps) := own_below hown hbw2
  have hown3 : (w2.alloc (.cells #[.int .i64 1, .string (strB nm), .string (strB []), .slice none 0 0] 92)).ownsRow B 92 4 pv ps.length (opCs ps) := own_alloc hown2 _
  have hnew : Rd (w2.alloc (.cells #[.int .i64 1, .string (strB nm), .string (strB []), .slice none 0 0] 92)) (· = w2.heap.size) 4 (.slice (some ⟨w2.heap.size, 0, none⟩) 1 1) 1 (opC (⟨1, nm, [], []⟩, .slice none 0 0)) := Rd.new w2 (opC (⟨1, nm, [], []⟩, .slice none 0 0)) 92 4 1 rfl (by unfold maxLen; omega)
  have hBs2 : B ≤ w2.heap.size := by have := hbw2.size; omega
  have HBD := Lib.hid hbD3
  have HD3 : Hid (∀ w3 : World, (w2.alloc (.cells #[.int .i64 1, .string (strB nm), .string (strB []), .slice none 0 0] 92)).grownBy w3 pv.ownBlock → w3.heap[D]? = some (.cells #[.map (some M), pv] 80 (0, 0))) := Lib.hid fun w3 hg3 => (hg3.block D (by simp; have := hDat2.lt.2; omega) (own_not_disk hown3 HBD.out)).trans HBD.out
  clear hbD3 hbD
  have HEM : strB [] = ByteArray.mk #[] := rfl
  simp only [HEM] at hown3 hnew HD3 HBD
  clear HEM
  go_wp2_with (at_builtin; refine wpList_append_app _ rfl (.tmp 15) (.tmp 18) 78 rfl B 92 i0 _ 4 64 Try.underlying78 HI.out HZ0.out HZ1.out HZ2.out rfl (by omega) pv ps.length (opCs ps) rfl (.inl hown3) (· = w2.heap.size) _ 1 (opC (⟨1, nm, [], []⟩, .slice none 0 0)) rfl hnew (opC_one _ rfl) (by unfold maxLen; omega) (by omega) (by simp; omega) ?_; intro v' w3 _ hO3 hg3 hb3 hv3; have hO3 := hO3 (.inl (by omega)); obtain ⟨A3, c3, rfl, z1, z2, z3⟩ := Rd.open_ (Rd.of_own hO3); clear z3 z2; have hD3 := HD3.out w3 hg3; have kf : w3.frozen? ⟨D, 1, none⟩ = false := frozen_of_row w3 D 1 _ _ hD3; have kc : w3.cell? ⟨D, 1, none⟩ = some pv := cell_of_row w3 D 1 _ _ _ hD3; clear hD3)
  go_ret
  refine ⟨rfl, ?_⟩
  have hb3' : Below w.heap.size w (w2.alloc (.cells #[.int .i64 1, .string (strB nm), .string (strB []), .slice none 0 0] 92)) := hbw2.trans ((Below.of_alloc _).mono hbw2.size)
  exact push_done (o := ⟨1, nm, [], []⟩) (dv := .slice none 0 0) hb3' hB HBD.out hBD hBM (hM.chg (Chg.of_below hb3' (fun _ => False)) (fun h => h)) hn (hG.below hB hb3') HPS.out (hO.chg hB (Chg.of_below hb3' (fun _ => False)) (fun _ _ h => h)) hown (DatB.nil _ _) hZs (by simp) hk (by simp [maxLen]) hO3 hg3 hv3

set_option maxRecDepth 100000 in
set_option maxHeartbeats 2000000 in
theorem drename_no (B Z D : Nat) (P : Option Nat) (fm : FM) (os : List DOp) (nm to : List UInt8) (w : World) (hB : B ≤ w.heap.size) (hD : DiskAt B Z w D P fm os) (hk : nm.length ≤ maxLen) (hZ : Z ≤ 1099511627776) (hx : (viewF fm os nm).isSome = false) (Z' : Nat) (hZ' : Z ≤ Z') :
    Calls Try.prog 25 #[.pointer (some ⟨D, 0, none⟩), .string (strB nm), .string (strB to)] w (DOut B Z' D P fm os 11 w) := by
  have CX := Lib.hid (dexists_any B Z D fm os nm w hB hD.rd hZ hk)
  have HX := Lib.hid hx
  clear hx
  go_enter Try.func25, Try.ntmps25
  go_wp2_with fail
  (with_reducible refine CX.out.mono ?_)
  rintro e w1 ⟨rfl, hb1⟩
  rw [HX.out]
  go_wp2_with fail
  go_ret
  exact ⟨rfl, DPush.same hD hB hb1 Z' hZ'⟩
set_option maxRecDepth 100000 in
set_option maxHeartbeats 2000000 in
theorem drename_ok (B Z D : Nat) (P : Option Nat) (fm : FM) (os : List DOp) (nm to : List UInt8) (w : World) (hB : B ≤ w.heap.size) (hD : DiskAt B Z w D P fm os) (hk : nm.length ≤ maxLen) (hZ : Z ≤ 1099511627776) (hx : (viewF fm os nm).isSome = true) (hw : wordF to = true) :
    Calls Try.prog 25 #[.pointer (some ⟨D, 0, none⟩), .string (strB nm), .string (strB to)] w (DOut B (Z + 1) D P fm (os ++ [⟨2, nm, to, []⟩]) 0 w) := by
  have CX := Lib.hid (dexists_any B Z D fm os nm w hB hD.rd hZ hk)
  have HX := Lib.hid hx
  clear hx
  have HW := Lib.hid hw
  have htl : to.length ≤ maxLen := by
    unfold wordF at hw; simp only [Bool.and_eq_true, decide_eq_true_eq] at hw; unfold maxLen; omega
  clear hw
  have hDat := hD
  obtain ⟨M, n, g, pv, hb, hBD, hBM, hM, hn, hG, ⟨ps, hps, hown, hO⟩, hZs, rfl⟩ := hD
  have hpl : ps.length ≤ Z := by have := congrArg List.length hps; rw [List.length_map] at this; omega
  have HB := Lib.hid hb
  have HPS := Lib.hid hps
  have hDl : D < w.heap.size := (Array.getElem?_eq_some_iff.1 hb).1
  obtain ⟨i0, hi, hz0, hz1, hz2⟩ := info_parts infoO
  have HI := Lib.hid hi
  have HZ0 := Lib.hid hz0
  have HZ1 := Lib.hid hz1
  have HZ2 := Lib.hid hz2
  clear hi hz0 hz1 hz2 hb hps
  go_enter Try.func25, Try.ntmps25
  go_wp2_with fail
  (with_reducible refine CX.out.mono ?_)
  rintro e w1 ⟨rfl, hb1⟩
  rw [HX.out]
  go_wp2_with fail
  (with_reducible refine (dword_any to w1).mono ?_)
  rintro e w2 ⟨rfl, hb2⟩
  rw [HW.out]
  have hbw2 : Below w.heap.size w w2 := hb1.trans (hb2.mono hb1.size)
  have hbD : w2.heap[D]? = some (.cells #[.map (some M), pv] 80 (0, 0)) := (hbw2.block D hDl).trans HB.out
  have k1 : w2.cell? ⟨D, 1, none⟩ = some pv := cell_of_row w2 D 1 _ _ _ hbD
  have hDat2 := hDat.below hB hbw2
  have hbD3 : (w2.alloc (.cells #[.int .i64 2, .string (strB nm), .string (strB to), .slice none 0 0] 92)).heap[D]? = some (.cells #[.map (some M), pv] 80 (0, 0)) := (Below.heap_alloc w2 _ D (hDat2.lt).2).trans hbD
  have hown2 : w2.ownsRow B 92 4 pv ps.length (opCs ps) := own_below hown hbw2
  have hown3 : (w2.alloc (.cells #[.int .i64 2, .string (strB nm), .string (strB to), .slice none 0 0] 92)).ownsRow B 92 4 pv ps.length (opCs ps) := own_alloc hown2 _
  have hnew : Rd (w2.alloc (.cells #[.int .i64 2, .string (strB nm), .string (strB to), .slice none 0 0] 92)) (· = w2.heap.size) 4 (.slice (some ⟨w2.heap.size, 0, none⟩) 1 1) 1 (opC (⟨2, nm, to, []⟩, .slice none 0 0)) := Rd.new w2 (opC (⟨2, nm, to, []⟩, .slice none 0 0)) 92 4 1 rfl (by unfold maxLen; omega)
  have hBs2 : B ≤ w2.heap.size := by have := hbw2.size; omega
  have HBD := Lib.hid hbD3
  have HD3 : Hid (∀ w3 : World, (w2.alloc (.cells #[.int .i64 2, .string (strB nm), .string (strB to), .slice none 0 0] 92)).grownBy w3 pv.ownBlock → w3.heap[D]? = some (.cells #[.map (some M), pv] 80 (0, 0))) := Lib.hid fun w3 hg3 => (hg3.block D (by simp; have := hDat2.lt.2; omega) (own_not_disk hown3 HBD.out)).trans HBD.out
  clear hbD3 hbD
  go_wp2_with (at_builtin; refine wpList_append_app _ rfl (.tmp 20) (.tmp 24) 78 rfl B 92 i0 _ 4 64 Try.underlying78 HI.out HZ0.out HZ1.out HZ2.out rfl (by omega) pv ps.length (opCs ps) rfl (.inl hown3) (· = w2.heap.size) _ 1 (opC (⟨2, nm, to, []⟩, .slice none 0 0)) rfl hnew (opC_one _ rfl) (by unfold maxLen; omega) (by omega) (by simp; omega) ?_; intro v' w3 _ hO3 hg3 hb3 hv3; have hO3 := hO3 (.inl (by omega)); obtain ⟨A3, c3, rfl, z1, z2, z3⟩ := Rd.open_ (Rd.of_own hO3); clear z3 z2; have hD3 := HD3.out w3 hg3; have kf : w3.frozen? ⟨D, 1, none⟩ = false := frozen_of_row w3 D 1 _ _ hD3; have kc : w3.cell? ⟨D, 1, none⟩ = some pv := cell_of_row w3 D 1 _ _ _ hD3; clear hD3)
  go_ret
  refine ⟨rfl, ?_⟩
  have hb3' : Below w.heap.size w (w2.alloc (.cells #[.int .i64 2, .string (strB nm), .string (strB to), .slice none 0 0] 92)) := hbw2.trans ((Below.of_alloc _).mono hbw2.size)
  exact push_done (o := ⟨2, nm, to, []⟩) (dv := .slice none 0 0) hb3' hB HBD.out hBD hBM (hM.chg (Chg.of_below hb3' (fun _ => False)) (fun h => h)) hn (hG.below hB hb3') HPS.out (hO.chg hB (Chg.of_below hb3' (fun _ => False)) (fun _ _ h => h)) hown (DatB.nil _ _) hZs (by simp) hk htl hO3 hg3 hv3

set_option maxRecDepth 100000 in
set_option maxHeartbeats 2000000 in
theorem drename_bad (B Z D : Nat) (P : Option Nat) (fm : FM) (os : List DOp) (nm to : List UInt8) (w : World) (hB : B ≤ w.heap.size) (hD : DiskAt B Z w D P fm os) (hk : nm.length ≤ maxLen) (hZ : Z ≤ 1099511627776) (hx : (viewF fm os nm).isSome = true) (hw : wordF to = false) (Z' : Nat) (hZ' : Z ≤ Z') :
    Calls Try.prog 25 #[.pointer (some ⟨D, 0, none⟩), .string (strB nm), .string (strB to)] w (DOut B Z' D P fm os 8 w) := by
  have CX := Lib.hid (dexists_any B Z D fm os nm w hB hD.rd hZ hk)
  have HX := Lib.hid hx
  have HW := Lib.hid hw
  clear hx hw
  go_enter Try.func25, Try.ntmps25
  go_wp2_with fail
  (with_reducible refine CX.out.mono ?_)
  rintro e w1 ⟨rfl, hb1⟩
  rw [HX.out]
  go_wp2_with fail
  (with_reducible refine (dword_any to w1).mono ?_)
  rintro e w2 ⟨rfl, hb2⟩
  rw [HW.out]
  go_wp2_with fail
  go_ret
  exact ⟨rfl, DPush.same hD hB (hb1.trans (hb2.mono hb1.size)) Z' hZ'⟩
end Go.Proofs.Ytooojgokkigncaa
