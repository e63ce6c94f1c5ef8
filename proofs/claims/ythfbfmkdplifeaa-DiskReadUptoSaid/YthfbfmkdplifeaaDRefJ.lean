/-
 RefJ
-/
import Derived.Test.YthfbfmkdplifeaaDRef
import Derived.Test.YthfbfmkdplifeaaDFile
namespace Go.Proofs.Ythfbfmkdplifeaa
open Go.RowKit Go.Lib Go.IntWalk
def DoOut [Inhabited Nb] (B Z D : Nat) (P0 : Option Nat) (w0 : World) (e : Ending) (w : World) : Prop :=
 ∃ lv ov P, e = .returned (.tuple #[.agg #[lv, ov], .bool true]) ∧ Both B Z w D P lv ov ∧ Chg (fun b => b = D ∨ some b = P0) w0 w
theorem Both.box {_ : Inhabited Nb} {B Z H : Nat} {w w' : World} {D : Nat} {P : Option Nat} {lv ov : Value} {cs : Array Value} {fr : Nat × Nat} (h : Both B Z w D P lv ov) (hB : B ≤ w.heap.size) (hH : B ≤ H) (hr : w.heap[H]? = some (.cells cs 28 fr)) (hc : Chg (· = H) w w') : Both B Z w' D P lv ov := by
 obtain ⟨fm, os, fl, h1, h2, h3, h4, h5, h6⟩ := h
 exact ⟨fm, os, fl, h1.keep hB hc (fun b hb => by subst hb; exact ⟨hH, _, _, _, hr, by decide, by decide, by decide⟩), h2.box hB hH hr hc, h3.box hB hH hr hc, h4, h5, h6⟩
theorem Both.ge {_ : Inhabited Nb} {B Z : Nat} {w : World} {D : Nat} {P : Option Nat} {lv ov : Value} (h : Both B Z w D P lv ov) {b : Nat} (hb : b = D ∨ some b = P) : B ≤ b := by
 obtain ⟨fm, os, fl, h1, _⟩ := h; exact h1.ge hb
theorem Both.not_log {_ : Inhabited Nb} {B Z : Nat} {w : World} {D : Nat} {P : Option Nat} {lv ov : Value} (h : Both B Z w D P lv ov) {b : Nat} {cs : Array Value} {t : TypeId} {fr : Nat × Nat} (hb : w.heap[b]? = some (.cells cs t fr)) (h1 : ¬ t = 47) (h2 : ¬ t = 70) : ¬ (b = D ∨ some b = P) := by
 obtain ⟨fm, os, fl, h, _⟩ := h; exact h.not_log hb h1 h2
theorem Both.open_ {_ : Inhabited Nb} {B Z : Nat} {w : World} {D : Nat} {P : Option Nat} {lv ov : Value} (h : Both B Z w D P lv ov) : ∃ A n c A' n' c', lv = .slice A n c ∧ ov = .slice A' n' c' := by
 obtain ⟨fm, os, fl, h1, h2, h3, _⟩ := h
 obtain ⟨A, c, e, _⟩ := h2.open_
 obtain ⟨A', c', e', _⟩ := h3.open_
 exact ⟨_, _, _, _, _, _, e, e'⟩
theorem RSz.push {Z : Nat} {fl : FL} {os : List DOp} {o : DOp} (h : RSz Z fl os) (hk : o.kind ≤ 2) : RSz (Z + o.data.length + 1) fl (os ++ [o]) := by
 have hs : dsum (os ++ [o]) = dsum os + o.data.length := by simp [dsum]
 have hl := h.len
 have ha := h.all
 refine ⟨by rw [List.length_append]; simp; omega, fun p hp => ?_, by omega, fun x hx => ?_⟩
 ·have := h.file p hp; omega
 ·rcases List.mem_append.1 hx with hx | hx
  ·exact h.kind x hx
  ·obtain rfl := List.mem_singleton.1 hx; exact hk
theorem RSz.sub {Z : Nat} {fl : FL} {os os' : List DOp} (h : RSz Z fl os) (hl : os'.length ≤ os.length) (hs : dsum os' ≤ dsum os) (hk : ∀ o ∈ os', o.kind ≤ 2) : RSz Z fl os' :=
 ⟨by have := h.len; omega, fun p hp => by have := h.file p hp; omega, by have := h.all; omega, hk⟩
theorem RSz.crash {Z : Nat} {fl : FL} {os : List DOp} (h : RSz Z fl os) (keep torn : Int) : RSz Z fl (crashOps os keep torn) := by
 cases hk : os[keep.toNat]? with
 | none =>
  rw [crash_none rfl hk]
  have := dsum_take_le os keep.toNat
  exact h.sub (by rw [List.length_take]; omega) (by omega) fun o ho => h.kind o (List.mem_of_mem_take ho)
 | some o =>
  rw [crash_some rfl hk]
  obtain ⟨hlt, e⟩ := List.getElem?_eq_some_iff.1 hk
  have h1 := dsum_take_le os keep.toNat
  have h2 := dsum_drop hk
  have h3 := dsum_torn o torn
  refine h.sub (by rw [List.length_append, List.length_take]; omega) (by rw [dsum_append]; omega) fun x hx => ?_
  rcases List.mem_append.1 hx with hx | hx
  ·exact h.kind x (List.mem_of_mem_take hx)
  ·unfold tornOp at hx
   split at hx
   ·rw [List.mem_singleton] at hx; subst hx; simp
   ·cases hx
set_option maxRecDepth 100000 in
set_option maxHeartbeats 4000000 in
theorem do0 [Inhabited Nb] (B Z D : Nat) (P : Option Nat) (lv ov : Value) (q : LOp) (dv : Value) (w : World) (hB : B ≤ w.heap.size) (hb : Both B Z w D P lv ov) (hnb : NB < w.heap.size) (hd : RdB w (· < w.heap.size) dv q.data) (hZ : Z ≤ 1099511627776) (hdl : q.data.length ≤ 1099511627776) (hnl : q.name.length ≤ maxLen) (htl : q.to.length ≤ maxLen) (hkd : q.kind = 0) :
  Calls Try.prog 8 #[.pointer (some ⟨D, 0, none⟩), .agg #[lv, ov], .agg #[.int .i64 q.kind, .string (strB q.name), .string (strB q.to), dv, .int .i64 q.keep, .int .i64 q.torn]] w (DoOut B (Z + q.data.length + 1) D P w) := by
 obtain ⟨kd, nm, to, data, kp, tn⟩ := q
 simp only at *
 obtain ⟨fm, os, fl, hD, hv, ho, hI, hK, hz⟩ := hb
 obtain ⟨A, c, rfl, a1, a2, a3⟩ := hv.open_
 obtain ⟨Ao, co, rfl, b1, b2, b3⟩ := ho.open_
 obtain ⟨X, x, rfl, x1, x2, x3⟩ := Rd.open_ hd
 have HA3 := Lib.hid a3
 have HB3 := Lib.hid b3
 have HX3 := Lib.hid x3
 clear a3 b3 x3
 have hol : os.length ≤ 1099511627776 := by have := hz.len; omega
 have HIV := Lib.hid (hI.view hK)
 obtain ⟨W, hW⟩ : ∃ W, W = ((w.alloc (.cells #[.slice A fl.length c, .slice Ao os.length co] 28)).alloc (.cells #[.int .i64 kd, .string (strB nm), .string (strB to), .slice X data.length x, .int .i64 kp, .int .i64 tn] 35)).alloc (.cells #[.slice none 0 0, .slice none 0 0] 28) := ⟨_, rfl⟩
 have hWs : W.heap.size = w.heap.size + 3 := by rw [hW]; simp
 have hb0 : Below w.heap.size w W := by rw [hW]; exact ((Below.of_alloc _).trans ((Below.of_alloc _).mono (by simp))).trans ((Below.of_alloc _).mono (by simp; omega))
 have hrD : W.heap[w.heap.size]? = some (.cells #[.slice A fl.length c, .slice Ao os.length co] 28 (0, 0)) := by
  rw [hW, Below.heap_alloc _ _ _ (by simp; omega), Below.heap_alloc _ _ _ (by simp)]; exact heap_alloc_new w _
 have hrO : W.heap[w.heap.size + 1]? = some (.cells #[.int .i64 kd, .string (strB nm), .string (strB to), .slice X data.length x, .int .i64 kp, .int .i64 tn] 35 (0, 0)) := by
  rw [hW, Below.heap_alloc _ _ _ (by simp)]
  have := heap_alloc_new (w.alloc (.cells #[.slice A fl.length c, .slice Ao os.length co] 28)) (.cells #[.int .i64 kd, .string (strB nm), .string (strB to), .slice X data.length x, .int .i64 kp, .int .i64 tn] 35)
  simpa using this
 have hrR : W.heap[w.heap.size + 2]? = some (.cells #[.slice none 0 0, .slice none 0 0] 28 (0, 0)) := by
  have := heap_alloc_new ((w.alloc (.cells #[.slice A fl.length c, .slice Ao os.length co] 28)).alloc (.cells #[.int .i64 kd, .string (strB nm), .string (strB to), .slice X data.length x, .int .i64 kp, .int .i64 tn] 35)) (.cells #[.slice none 0 0, .slice none 0 0] 28)
  rw [hW]; simpa using this
 have hBW : B ≤ W.heap.size := by omega
 have hDW := hD.below hB hb0
 have hvW := hv.below hB hb0
 have hoW := ho.below hB hb0
 have hdW := RdB.below hd hb0
 have k0 : W.cell? ⟨w.heap.size, 0, none⟩ = some (.slice A fl.length c) := cell_of_row _ _ 0 _ _ _ hrD
 have k1 : W.cell? ⟨w.heap.size, 1, none⟩ = some (.slice Ao os.length co) := cell_of_row _ _ 1 _ _ _ hrD
 have j0 : W.cell? ⟨w.heap.size + 1, 0, none⟩ = some (.int .i64 kd) := cell_of_row _ _ 0 _ _ _ hrO
 have j1 : W.cell? ⟨w.heap.size + 1, 1, none⟩ = some (.string (strB nm)) := cell_of_row _ _ 1 _ _ _ hrO
 have j2 : W.cell? ⟨w.heap.size + 1, 2, none⟩ = some (.string (strB to)) := cell_of_row _ _ 2 _ _ _ hrO
 have j3 : W.cell? ⟨w.heap.size + 1, 3, none⟩ = some (.slice X data.length x) := cell_of_row _ _ 3 _ _ _ hrO
 have j4 : W.cell? ⟨w.heap.size + 1, 4, none⟩ = some (.int .i64 kp) := cell_of_row _ _ 4 _ _ _ hrO
 have j5 : W.cell? ⟨w.heap.size + 1, 5, none⟩ = some (.int .i64 tn) := cell_of_row _ _ 5 _ _ _ hrO
 have HW := Lib.hid hW
 clear hW hD hv ho hd
 subst hkd
 cases hw : wordF nm with
 | true =>
  go_enter Try.func8, Try.ntmps8
  go_wp2_with fail
  rw [← HW.out]
  (with_reducible refine (rappend_ok B _ _ fl os nm _ data W hBW (by have := hb0.size; omega) hvW hoW hnl hw hdW hol hdl).mono ?_)
  rintro e w1 ⟨l1, o1, rfl, hl1, ho1, hb1⟩
  obtain ⟨A1, c1, rfl, s1, s2, s3⟩ := hl1.open_
  obtain ⟨B1, d1, rfl, t1, t2, t3⟩ := ho1.open_
  have HS3 := Lib.hid s3
  have HT3 := Lib.hid t3
  clear s3 t3
  generalize hn1 : (os ++ [(⟨0, nm, [], data⟩ : DOp)]).length = n1 at *
  have HN1 := Lib.hid hn1
  clear hn1
  have hs1 := hb1.size
  obtain ⟨W2, hW2⟩ : ∃ W, W = w1.alloc (.cells #[.slice A1 fl.length c1, .slice B1 n1 d1] 28) := ⟨_, rfl⟩
  have hb2 : Below w1.heap.size w1 W2 := by rw [hW2]; exact Below.of_alloc _
  have hs2 : W2.heap.size = w1.heap.size + 1 := by rw [hW2]; simp
  have hrY : W2.heap[w1.heap.size]? = some (.cells #[.slice A1 fl.length c1, .slice B1 n1 d1] 28 (0, 0)) := by rw [hW2]; exact heap_alloc_new w1 _
  have y0 : W2.cell? ⟨w1.heap.size, 0, none⟩ = some (.slice A1 fl.length c1) := cell_of_row _ _ 0 _ _ _ hrY
  have y1 : W2.cell? ⟨w1.heap.size, 1, none⟩ = some (.slice B1 n1 d1) := cell_of_row _ _ 1 _ _ _ hrY
  have hbW2 : Below W.heap.size W W2 := hb1.trans (hb2.mono hs1)
  have hrO2 := (hbW2.block (w.heap.size + 1) (by omega)).trans hrO
  have hrR2 := (hbW2.block (w.heap.size + 2) (by omega)).trans hrR
  have i1 : W2.cell? ⟨w.heap.size + 1, 1, none⟩ = some (.string (strB nm)) := cell_of_row _ _ 1 _ _ _ hrO2
  have i2 : W2.cell? ⟨w.heap.size + 1, 2, none⟩ = some (.string (strB to)) := cell_of_row _ _ 2 _ _ _ hrO2
  have i3 : W2.cell? ⟨w.heap.size + 1, 3, none⟩ = some (.slice X data.length x) := cell_of_row _ _ 3 _ _ _ hrO2
  have hD2 := hDW.below hBW hbW2
  have hl2 := hl1.below (by omega) hb2
  have ho2 := ho1.below (by omega) hb2
  have hd2 := RdB.below hdW hbW2
  have hB2 : B ≤ W2.heap.size := by omega
  have HW2 := Lib.hid hW2
  clear hW2
  go_wp2_with fail
  rw [← HW2.out]
  refine wp_region_noPanic ?_
  refine beginT (S := (fun w' => w'.heap[w1.heap.size]? = W2.heap[w1.heap.size]? ∧ w'.heap[w.heap.size + 1]? = W2.heap[w.heap.size + 1]?)) 10 (by kernel_rfl) ?_ (fun hHeld => ?_)
  ·exact ⟨rfl, rfl⟩
  refine takeT 0 (some 27) (v := ?_) rfl rfl (by kernel_rfl) (by kernel_rfl) (by kernel_rfl) (by kernel_rfl) (by rfl) hHeld (fun _ _ _ h => h) ?_ ?_
  rotate_left
  ·intro w' hSw; (try dsimp only at hSw); have q0 := (World.cell?_of_block (w := W2) (a := ⟨w1.heap.size, 0, none⟩) hSw.1).trans y0; have q1 := (World.cell?_of_block (w := W2) (a := ⟨w1.heap.size, 1, none⟩) hSw.1).trans y1; go_simp <;> with_reducible rfl
  simp only [Act.put, List.setIfInBounds_toArray, List.set_cons_zero, List.set_cons_succ]
  refine takeT 1 (some 28) (v := ?_) rfl rfl (by kernel_rfl) (by kernel_rfl) (by kernel_rfl) (by kernel_rfl) (by rfl) hHeld (fun _ _ _ h => h) ?_ ?_
  rotate_left
  ·intro w' hSw; (try dsimp only at hSw); go_simp <;> with_reducible rfl
  simp only [Act.put, List.setIfInBounds_toArray, List.set_cons_zero, List.set_cons_succ]
  refine takeT 2 (some 29) (v := ?_) rfl rfl (by kernel_rfl) (by kernel_rfl) (by kernel_rfl) (by kernel_rfl) (by rfl) hHeld (fun _ _ _ h => h) ?_ ?_
  rotate_left
  ·intro w' hSw; (try dsimp only at hSw); go_simp <;> with_reducible rfl
  simp only [Act.put, List.setIfInBounds_toArray, List.set_cons_zero, List.set_cons_succ]
  refine takeT 3 (some 30) (v := ?_) rfl rfl (by kernel_rfl) (by kernel_rfl) (by kernel_rfl) (by kernel_rfl) (by rfl) hHeld (fun _ _ _ h => h) ?_ ?_
  rotate_left
  ·intro w' hSw; (try dsimp only at hSw); have q1 := (World.cell?_of_block (w := W2) (a := ⟨w.heap.size + 1, 1, none⟩) hSw.2).trans i1; have q2 := (World.cell?_of_block (w := W2) (a := ⟨w.heap.size + 1, 2, none⟩) hSw.2).trans i2; have q3 := (World.cell?_of_block (w := W2) (a := ⟨w.heap.size + 1, 3, none⟩) hSw.2).trans i3; go_simp <;> with_reducible rfl
  simp only [Act.put, List.setIfInBounds_toArray, List.set_cons_zero, List.set_cons_succ]
  refine takeT 4 (some 31) (v := ?_) rfl rfl (by kernel_rfl) (by kernel_rfl) (by kernel_rfl) (by kernel_rfl) (by rfl) hHeld (fun _ _ _ h => h) ?_ ?_
  rotate_left
  ·intro w' hSw; (try dsimp only at hSw); go_simp <;> with_reducible rfl
  simp only [Act.put, List.setIfInBounds_toArray, List.set_cons_zero, List.set_cons_succ]
  refine takeT 5 (some 32) (v := ?_) rfl rfl (by kernel_rfl) (by kernel_rfl) (by kernel_rfl) (by kernel_rfl) (by rfl) hHeld (fun _ _ _ h => h) ?_ ?_
  rotate_left
  ·intro w' hSw; (try dsimp only at hSw); have q1 := (World.cell?_of_block (w := W2) (a := ⟨w.heap.size + 1, 1, none⟩) hSw.2).trans i1; have q2 := (World.cell?_of_block (w := W2) (a := ⟨w.heap.size + 1, 2, none⟩) hSw.2).trans i2; have q3 := (World.cell?_of_block (w := W2) (a := ⟨w.heap.size + 1, 3, none⟩) hSw.2).trans i3; go_simp <;> with_reducible rfl
  simp only [Act.put, List.setIfInBounds_toArray, List.set_cons_zero, List.set_cons_succ]
  refine takeT 7 (some 34) (v := ?_) rfl rfl (by kernel_rfl) (by kernel_rfl) (by kernel_rfl) (by kernel_rfl) (by rfl) hHeld (fun _ _ _ h => h) ?_ ?_
  rotate_left
  ·intro w' hSw; (try dsimp only at hSw); go_simp <;> with_reducible rfl
  simp only [Act.put, List.setIfInBounds_toArray, List.set_cons_zero, List.set_cons_succ]
  refine fork1 6 (by kernel_rfl) ?_
  refine callF 6 (some 33) (f := ?_) (args := ?_) rfl rfl (by rfl) ?_ ?_
  rotate_left 2
  ·go_simp <;> first | (constructor <;> with_reducible rfl) | with_reducible rfl
  (with_reducible refine (dappend_ok B Z D P fm os nm _ data _ ?_ ?_ ?_ hw ?_ hdl hZ).mono ?_)
  ·exact hB2
  ·exact Nat.lt_of_lt_of_le hnb (Nat.le_trans hb0.size hbW2.size)
  ·exact hD2.drew
  ·exact Rd.drew hd2
  rintro e w3 ⟨rfl, P3, hD3, hP3, hC3'⟩
  have hC3 : Chg (fun b => b = D ∨ some b = P) W2 w3 := ⟨hC3'.os, hC3'.tape, hC3'.output, hC3'.size, hC3'.block⟩
  clear hC3'
  have hs3 := hC3.size
  have hY3 : w3.heap[w1.heap.size]? = W2.heap[w1.heap.size]? := hC3.block _ (by omega) (hD2.not_log hrY (by decide) (by decide))
  have hO3 : w3.heap[w.heap.size + 1]? = W2.heap[w.heap.size + 1]? := hC3.block _ (by omega) (hD2.not_log hrO2 (by decide) (by decide))
  have hR3 := (hC3.block (w.heap.size + 2) (by omega) (hD2.not_log hrR2 (by decide) (by decide))).trans hrR2
  have hl3 := hl2.chg hB2 hC3 hD2.br hD2.fr34
  have ho3 := ho2.chg hB2 hC3 hD2.br hD2.dor
  obtain ⟨q0, q1, q2, q3, q6, q4, q5, hC4⟩ := two_store w3 (w.heap.size + 2) (.slice none 0 0) (.slice none 0 0) (.slice A1 fl.length c1) (.slice B1 n1 d1) _ hR3
  have hl4 := FlsRd.box hl3 (by omega) (by omega) hR3 hC4
  have ho4 := DosRd.box ho3 (by omega) (by omega) hR3 hC4
  have hD4 := hD3.keep (by omega) hC4 (fun b hb => by subst hb; exact ⟨by omega, _, _, _, hR3, by decide, by decide, by decide⟩)
  clear q6
  refine ⟨_, rfl, ?_⟩
  refine keepAnd ?_ (fun hNew => ?_)
  ·intro _; exact ⟨hY3, hO3⟩
  have hNew := hNew (by decide)
  clear hHeld
  have hHeld := hNew
  clear hNew
  simp only [Act.put, List.setIfInBounds_toArray, List.set_cons_zero, List.set_cons_succ]
  refine takeT 8 (some 35) (v := ?_) rfl rfl (by kernel_rfl) (by kernel_rfl) (by kernel_rfl) (by kernel_rfl) (by rfl) hHeld (fun _ _ _ h => h) ?_ ?_
  rotate_left
  ·intro w' hSw; (try dsimp only at hSw); go_simp <;> with_reducible rfl
  simp only [Act.put, List.setIfInBounds_toArray, List.set_cons_zero, List.set_cons_succ]
  refine fork1 9 (by kernel_rfl) ?_
  refine skipRunF 9 none (w' := (w3.setCell ⟨w.heap.size + 2, 0, none⟩ (.slice A1 fl.length c1)).setCell ⟨w.heap.size + 2, 1, none⟩ (.slice B1 n1 d1)) rfl rfl (by rfl) ?_ ?_
  ·go_simp <;> with_reducible rfl
  refine keepAnd ?_ (fun hNew => ?_)
  ·intro _; exact ⟨(hC4.block _ (by omega) (by omega)).trans hY3, (hC4.block _ (by omega) (by omega)).trans hO3⟩
  have hNew := hNew (by decide)
  clear hHeld
  have hHeld := hNew
  clear hNew
  simp only [Act.put]
  refine fork1 10 (by kernel_rfl) ?_
  refine runF 10 (some 7) (v := ?_) (w' := ?_) rfl rfl (by rfl) ?_ ?_
  rotate_left 2
  ·go_simp <;> first | with_reducible rfl | (constructor <;> with_reducible rfl)
  refine ⟨fun h => absurd rfl h, ?_⟩
  clear hHeld
  simp only [Act.put, List.setIfInBounds_toArray, List.set_cons_zero, List.set_cons_succ]
  refine doneT (by kernel_rfl) ?_ _
  refine NoPanic.normal ?_
  go_wp2_with fail
  refine bodyPost_ret (v := .tuple #[.agg #[.slice A1 fl.length c1, .slice B1 n1 d1], .bool true]) (by simp [results, Try.results8, go_sem, q4, q5]) rfl ?_
  refine ⟨_, _, P3, rfl, ⟨fm, (os ++ [(⟨0, nm, [], data⟩ : DOp)]), fl, hD4.mono (by (try simp only [List.length_nil]); omega), hl4, ho4, hI, ?_, ?_⟩, ((Chg.of_below (hb0.trans (hbW2.mono (by omega))) _).trans hC3 (fun _ _ h => h)).trans hC4 (fun i hi h => by omega)⟩
  ·exact hK.snoc (by simp) (by simp)
  ·exact (hz.push (by simp)).mono (by simp only; omega)
 | false =>
  go_enter Try.func8, Try.ntmps8
  go_wp2_with fail
  rw [← HW.out]
  (with_reducible refine (rappend_bad B _ _ fl os nm _ W hBW hvW hoW hnl hw).mono ?_)
  rintro e w1 ⟨l1, o1, rfl, hl1, ho1, hb1⟩
  obtain ⟨A1, c1, rfl, s1, s2, s3⟩ := hl1.open_
  obtain ⟨B1, d1, rfl, t1, t2, t3⟩ := ho1.open_
  have HS3 := Lib.hid s3
  have HT3 := Lib.hid t3
  clear s3 t3
  generalize hn1 : os.length = n1 at *
  have HN1 := Lib.hid hn1
  clear hn1
  have hs1 := hb1.size
  obtain ⟨W2, hW2⟩ : ∃ W, W = w1.alloc (.cells #[.slice A1 fl.length c1, .slice B1 n1 d1] 28) := ⟨_, rfl⟩
  have hb2 : Below w1.heap.size w1 W2 := by rw [hW2]; exact Below.of_alloc _
  have hs2 : W2.heap.size = w1.heap.size + 1 := by rw [hW2]; simp
  have hrY : W2.heap[w1.heap.size]? = some (.cells #[.slice A1 fl.length c1, .slice B1 n1 d1] 28 (0, 0)) := by rw [hW2]; exact heap_alloc_new w1 _
  have y0 : W2.cell? ⟨w1.heap.size, 0, none⟩ = some (.slice A1 fl.length c1) := cell_of_row _ _ 0 _ _ _ hrY
  have y1 : W2.cell? ⟨w1.heap.size, 1, none⟩ = some (.slice B1 n1 d1) := cell_of_row _ _ 1 _ _ _ hrY
  have hbW2 : Below W.heap.size W W2 := hb1.trans (hb2.mono hs1)
  have hrO2 := (hbW2.block (w.heap.size + 1) (by omega)).trans hrO
  have hrR2 := (hbW2.block (w.heap.size + 2) (by omega)).trans hrR
  have i1 : W2.cell? ⟨w.heap.size + 1, 1, none⟩ = some (.string (strB nm)) := cell_of_row _ _ 1 _ _ _ hrO2
  have i2 : W2.cell? ⟨w.heap.size + 1, 2, none⟩ = some (.string (strB to)) := cell_of_row _ _ 2 _ _ _ hrO2
  have i3 : W2.cell? ⟨w.heap.size + 1, 3, none⟩ = some (.slice X data.length x) := cell_of_row _ _ 3 _ _ _ hrO2
  have hD2 := hDW.below hBW hbW2
  have hl2 := hl1.below (by omega) hb2
  have ho2 := ho1.below (by omega) hb2
  have hd2 := RdB.below hdW hbW2
  have hB2 : B ≤ W2.heap.size := by omega
  have HW2 := Lib.hid hW2
  clear hW2
  go_wp2_with fail
  rw [← HW2.out]
  refine wp_region_noPanic ?_
  refine beginT (S := (fun w' => w'.heap[w1.heap.size]? = W2.heap[w1.heap.size]? ∧ w'.heap[w.heap.size + 1]? = W2.heap[w.heap.size + 1]?)) 10 (by kernel_rfl) ?_ (fun hHeld => ?_)
  ·exact ⟨rfl, rfl⟩
  refine takeT 0 (some 27) (v := ?_) rfl rfl (by kernel_rfl) (by kernel_rfl) (by kernel_rfl) (by kernel_rfl) (by rfl) hHeld (fun _ _ _ h => h) ?_ ?_
  rotate_left
  ·intro w' hSw; (try dsimp only at hSw); have q0 := (World.cell?_of_block (w := W2) (a := ⟨w1.heap.size, 0, none⟩) hSw.1).trans y0; have q1 := (World.cell?_of_block (w := W2) (a := ⟨w1.heap.size, 1, none⟩) hSw.1).trans y1; go_simp <;> with_reducible rfl
  simp only [Act.put, List.setIfInBounds_toArray, List.set_cons_zero, List.set_cons_succ]
  refine takeT 1 (some 28) (v := ?_) rfl rfl (by kernel_rfl) (by kernel_rfl) (by kernel_rfl) (by kernel_rfl) (by rfl) hHeld (fun _ _ _ h => h) ?_ ?_
  rotate_left
  ·intro w' hSw; (try dsimp only at hSw); go_simp <;> with_reducible rfl
  simp only [Act.put, List.setIfInBounds_toArray, List.set_cons_zero, List.set_cons_succ]
  refine takeT 2 (some 29) (v := ?_) rfl rfl (by kernel_rfl) (by kernel_rfl) (by kernel_rfl) (by kernel_rfl) (by rfl) hHeld (fun _ _ _ h => h) ?_ ?_
  rotate_left
  ·intro w' hSw; (try dsimp only at hSw); go_simp <;> with_reducible rfl
  simp only [Act.put, List.setIfInBounds_toArray, List.set_cons_zero, List.set_cons_succ]
  refine takeT 3 (some 30) (v := ?_) rfl rfl (by kernel_rfl) (by kernel_rfl) (by kernel_rfl) (by kernel_rfl) (by rfl) hHeld (fun _ _ _ h => h) ?_ ?_
  rotate_left
  ·intro w' hSw; (try dsimp only at hSw); have q1 := (World.cell?_of_block (w := W2) (a := ⟨w.heap.size + 1, 1, none⟩) hSw.2).trans i1; have q2 := (World.cell?_of_block (w := W2) (a := ⟨w.heap.size + 1, 2, none⟩) hSw.2).trans i2; have q3 := (World.cell?_of_block (w := W2) (a := ⟨w.heap.size + 1, 3, none⟩) hSw.2).trans i3; go_simp <;> with_reducible rfl
  simp only [Act.put, List.setIfInBounds_toArray, List.set_cons_zero, List.set_cons_succ]
  refine takeT 4 (some 31) (v := ?_) rfl rfl (by kernel_rfl) (by kernel_rfl) (by kernel_rfl) (by kernel_rfl) (by rfl) hHeld (fun _ _ _ h => h) ?_ ?_
  rotate_left
  ·intro w' hSw; (try dsimp only at hSw); go_simp <;> with_reducible rfl
  simp only [Act.put, List.setIfInBounds_toArray, List.set_cons_zero, List.set_cons_succ]
  refine takeT 5 (some 32) (v := ?_) rfl rfl (by kernel_rfl) (by kernel_rfl) (by kernel_rfl) (by kernel_rfl) (by rfl) hHeld (fun _ _ _ h => h) ?_ ?_
  rotate_left
  ·intro w' hSw; (try dsimp only at hSw); have q1 := (World.cell?_of_block (w := W2) (a := ⟨w.heap.size + 1, 1, none⟩) hSw.2).trans i1; have q2 := (World.cell?_of_block (w := W2) (a := ⟨w.heap.size + 1, 2, none⟩) hSw.2).trans i2; have q3 := (World.cell?_of_block (w := W2) (a := ⟨w.heap.size + 1, 3, none⟩) hSw.2).trans i3; go_simp <;> with_reducible rfl
  simp only [Act.put, List.setIfInBounds_toArray, List.set_cons_zero, List.set_cons_succ]
  refine takeT 7 (some 34) (v := ?_) rfl rfl (by kernel_rfl) (by kernel_rfl) (by kernel_rfl) (by kernel_rfl) (by rfl) hHeld (fun _ _ _ h => h) ?_ ?_
  rotate_left
  ·intro w' hSw; (try dsimp only at hSw); go_simp <;> with_reducible rfl
  simp only [Act.put, List.setIfInBounds_toArray, List.set_cons_zero, List.set_cons_succ]
  refine fork1 6 (by kernel_rfl) ?_
  refine callF 6 (some 33) (f := ?_) (args := ?_) rfl rfl (by rfl) ?_ ?_
  rotate_left 2
  ·go_simp <;> first | (constructor <;> with_reducible rfl) | with_reducible rfl
  (with_reducible refine (dappend_bad B Z D P fm os nm _ _ ?_ ?_ hw (Z + data.length + 1) (by omega)).mono ?_)
  ·exact hB2
  ·exact hD2.drew
  rintro e w3 ⟨rfl, P3, hD3, hP3, hC3'⟩
  have hC3 : Chg (fun b => b = D ∨ some b = P) W2 w3 := ⟨hC3'.os, hC3'.tape, hC3'.output, hC3'.size, hC3'.block⟩
  clear hC3'
  have hs3 := hC3.size
  have hY3 : w3.heap[w1.heap.size]? = W2.heap[w1.heap.size]? := hC3.block _ (by omega) (hD2.not_log hrY (by decide) (by decide))
  have hO3 : w3.heap[w.heap.size + 1]? = W2.heap[w.heap.size + 1]? := hC3.block _ (by omega) (hD2.not_log hrO2 (by decide) (by decide))
  have hR3 := (hC3.block (w.heap.size + 2) (by omega) (hD2.not_log hrR2 (by decide) (by decide))).trans hrR2
  have hl3 := hl2.chg hB2 hC3 hD2.br hD2.fr34
  have ho3 := ho2.chg hB2 hC3 hD2.br hD2.dor
  obtain ⟨q0, q1, q2, q3, q6, q4, q5, hC4⟩ := two_store w3 (w.heap.size + 2) (.slice none 0 0) (.slice none 0 0) (.slice A1 fl.length c1) (.slice B1 n1 d1) _ hR3
  have hl4 := FlsRd.box hl3 (by omega) (by omega) hR3 hC4
  have ho4 := DosRd.box ho3 (by omega) (by omega) hR3 hC4
  have hD4 := hD3.keep (by omega) hC4 (fun b hb => by subst hb; exact ⟨by omega, _, _, _, hR3, by decide, by decide, by decide⟩)
  clear q6
  refine ⟨_, rfl, ?_⟩
  refine keepAnd ?_ (fun hNew => ?_)
  ·intro _; exact ⟨hY3, hO3⟩
  have hNew := hNew (by decide)
  clear hHeld
  have hHeld := hNew
  clear hNew
  simp only [Act.put, List.setIfInBounds_toArray, List.set_cons_zero, List.set_cons_succ]
  refine takeT 8 (some 35) (v := ?_) rfl rfl (by kernel_rfl) (by kernel_rfl) (by kernel_rfl) (by kernel_rfl) (by rfl) hHeld (fun _ _ _ h => h) ?_ ?_
  rotate_left
  ·intro w' hSw; (try dsimp only at hSw); go_simp <;> with_reducible rfl
  simp only [Act.put, List.setIfInBounds_toArray, List.set_cons_zero, List.set_cons_succ]
  refine fork1 9 (by kernel_rfl) ?_
  refine skipRunF 9 none (w' := (w3.setCell ⟨w.heap.size + 2, 0, none⟩ (.slice A1 fl.length c1)).setCell ⟨w.heap.size + 2, 1, none⟩ (.slice B1 n1 d1)) rfl rfl (by rfl) ?_ ?_
  ·go_simp <;> with_reducible rfl
  refine keepAnd ?_ (fun hNew => ?_)
  ·intro _; exact ⟨(hC4.block _ (by omega) (by omega)).trans hY3, (hC4.block _ (by omega) (by omega)).trans hO3⟩
  have hNew := hNew (by decide)
  clear hHeld
  have hHeld := hNew
  clear hNew
  simp only [Act.put]
  refine fork1 10 (by kernel_rfl) ?_
  refine runF 10 (some 7) (v := ?_) (w' := ?_) rfl rfl (by rfl) ?_ ?_
  rotate_left 2
  ·go_simp <;> first | with_reducible rfl | (constructor <;> with_reducible rfl)
  refine ⟨fun h => absurd rfl h, ?_⟩
  clear hHeld
  simp only [Act.put, List.setIfInBounds_toArray, List.set_cons_zero, List.set_cons_succ]
  refine doneT (by kernel_rfl) ?_ _
  refine NoPanic.normal ?_
  go_wp2_with fail
  refine bodyPost_ret (v := .tuple #[.agg #[.slice A1 fl.length c1, .slice B1 n1 d1], .bool true]) (by simp [results, Try.results8, go_sem, q4, q5]) rfl ?_
  refine ⟨_, _, P3, rfl, ⟨fm, os, fl, hD4.mono (by (try simp only [List.length_nil]); omega), hl4, ho4, hI, ?_, ?_⟩, ((Chg.of_below (hb0.trans (hbW2.mono (by omega))) _).trans hC3 (fun _ _ h => h)).trans hC4 (fun i hi h => by omega)⟩
  ·exact hK
  ·exact hz.mono (by omega)
set_option maxRecDepth 100000 in
set_option maxHeartbeats 4000000 in
theorem do1 [Inhabited Nb] (B Z D : Nat) (P : Option Nat) (lv ov : Value) (q : LOp) (dv : Value) (w : World) (hB : B ≤ w.heap.size) (hb : Both B Z w D P lv ov) (hd : RdB w (· < w.heap.size) dv q.data) (hZ : Z ≤ 1099511627776) (hdl : q.data.length ≤ 1099511627776) (hnl : q.name.length ≤ maxLen) (htl : q.to.length ≤ maxLen) (hkd : q.kind = 1) :
  Calls Try.prog 8 #[.pointer (some ⟨D, 0, none⟩), .agg #[lv, ov], .agg #[.int .i64 q.kind, .string (strB q.name), .string (strB q.to), dv, .int .i64 q.keep, .int .i64 q.torn]] w (DoOut B (Z + q.data.length + 1) D P w) := by
 obtain ⟨kd, nm, to, data, kp, tn⟩ := q
 simp only at *
 obtain ⟨fm, os, fl, hD, hv, ho, hI, hK, hz⟩ := hb
 obtain ⟨A, c, rfl, a1, a2, a3⟩ := hv.open_
 obtain ⟨Ao, co, rfl, b1, b2, b3⟩ := ho.open_
 obtain ⟨X, x, rfl, x1, x2, x3⟩ := Rd.open_ hd
 have HA3 := Lib.hid a3
 have HB3 := Lib.hid b3
 have HX3 := Lib.hid x3
 clear a3 b3 x3
 have hol : os.length ≤ 1099511627776 := by have := hz.len; omega
 have HIV := Lib.hid (hI.view hK)
 obtain ⟨W, hW⟩ : ∃ W, W = ((w.alloc (.cells #[.slice A fl.length c, .slice Ao os.length co] 28)).alloc (.cells #[.int .i64 kd, .string (strB nm), .string (strB to), .slice X data.length x, .int .i64 kp, .int .i64 tn] 35)).alloc (.cells #[.slice none 0 0, .slice none 0 0] 28) := ⟨_, rfl⟩
 have hWs : W.heap.size = w.heap.size + 3 := by rw [hW]; simp
 have hb0 : Below w.heap.size w W := by rw [hW]; exact ((Below.of_alloc _).trans ((Below.of_alloc _).mono (by simp))).trans ((Below.of_alloc _).mono (by simp; omega))
 have hrD : W.heap[w.heap.size]? = some (.cells #[.slice A fl.length c, .slice Ao os.length co] 28 (0, 0)) := by
  rw [hW, Below.heap_alloc _ _ _ (by simp; omega), Below.heap_alloc _ _ _ (by simp)]; exact heap_alloc_new w _
 have hrO : W.heap[w.heap.size + 1]? = some (.cells #[.int .i64 kd, .string (strB nm), .string (strB to), .slice X data.length x, .int .i64 kp, .int .i64 tn] 35 (0, 0)) := by
  rw [hW, Below.heap_alloc _ _ _ (by simp)]
  have := heap_alloc_new (w.alloc (.cells #[.slice A fl.length c, .slice Ao os.length co] 28)) (.cells #[.int .i64 kd, .string (strB nm), .string (strB to), .slice X data.length x, .int .i64 kp, .int .i64 tn] 35)
  simpa using this
 have hrR : W.heap[w.heap.size + 2]? = some (.cells #[.slice none 0 0, .slice none 0 0] 28 (0, 0)) := by
  have := heap_alloc_new ((w.alloc (.cells #[.slice A fl.length c, .slice Ao os.length co] 28)).alloc (.cells #[.int .i64 kd, .string (strB nm), .string (strB to), .slice X data.length x, .int .i64 kp, .int .i64 tn] 35)) (.cells #[.slice none 0 0, .slice none 0 0] 28)
  rw [hW]; simpa using this
 have hBW : B ≤ W.heap.size := by omega
 have hDW := hD.below hB hb0
 have hvW := hv.below hB hb0
 have hoW := ho.below hB hb0
 have hdW := RdB.below hd hb0
 have k0 : W.cell? ⟨w.heap.size, 0, none⟩ = some (.slice A fl.length c) := cell_of_row _ _ 0 _ _ _ hrD
 have k1 : W.cell? ⟨w.heap.size, 1, none⟩ = some (.slice Ao os.length co) := cell_of_row _ _ 1 _ _ _ hrD
 have j0 : W.cell? ⟨w.heap.size + 1, 0, none⟩ = some (.int .i64 kd) := cell_of_row _ _ 0 _ _ _ hrO
 have j1 : W.cell? ⟨w.heap.size + 1, 1, none⟩ = some (.string (strB nm)) := cell_of_row _ _ 1 _ _ _ hrO
 have j2 : W.cell? ⟨w.heap.size + 1, 2, none⟩ = some (.string (strB to)) := cell_of_row _ _ 2 _ _ _ hrO
 have j3 : W.cell? ⟨w.heap.size + 1, 3, none⟩ = some (.slice X data.length x) := cell_of_row _ _ 3 _ _ _ hrO
 have j4 : W.cell? ⟨w.heap.size + 1, 4, none⟩ = some (.int .i64 kp) := cell_of_row _ _ 4 _ _ _ hrO
 have j5 : W.cell? ⟨w.heap.size + 1, 5, none⟩ = some (.int .i64 tn) := cell_of_row _ _ 5 _ _ _ hrO
 have HW := Lib.hid hW
 clear hW hD hv ho hd
 subst hkd
 have HXE := Lib.hid (congrArg Option.isSome (HIV.out.2 nm))
 cases hx : (viewF fm os nm).isSome with
 | true =>
  have hxr : (lookL (viewL fl os) nm).isSome = true := HXE.out.trans hx
  go_enter Try.func8, Try.ntmps8
  go_wp2_with fail
  rw [← HW.out]
  (with_reducible refine (rremove_ok B Z _ _ fl os nm W hBW hvW hoW hz hZ hxr hol).mono ?_)
  rintro e w1 ⟨l1, o1, rfl, hl1, ho1, hb1⟩
  obtain ⟨A1, c1, rfl, s1, s2, s3⟩ := hl1.open_
  obtain ⟨B1, d1, rfl, t1, t2, t3⟩ := ho1.open_
  have HS3 := Lib.hid s3
  have HT3 := Lib.hid t3
  clear s3 t3
  generalize hn1 : (os ++ [(⟨1, nm, [], []⟩ : DOp)]).length = n1 at *
  have HN1 := Lib.hid hn1
  clear hn1
  have hs1 := hb1.size
  obtain ⟨W2, hW2⟩ : ∃ W, W = w1.alloc (.cells #[.slice A1 fl.length c1, .slice B1 n1 d1] 28) := ⟨_, rfl⟩
  have hb2 : Below w1.heap.size w1 W2 := by rw [hW2]; exact Below.of_alloc _
  have hs2 : W2.heap.size = w1.heap.size + 1 := by rw [hW2]; simp
  have hrY : W2.heap[w1.heap.size]? = some (.cells #[.slice A1 fl.length c1, .slice B1 n1 d1] 28 (0, 0)) := by rw [hW2]; exact heap_alloc_new w1 _
  have y0 : W2.cell? ⟨w1.heap.size, 0, none⟩ = some (.slice A1 fl.length c1) := cell_of_row _ _ 0 _ _ _ hrY
  have y1 : W2.cell? ⟨w1.heap.size, 1, none⟩ = some (.slice B1 n1 d1) := cell_of_row _ _ 1 _ _ _ hrY
  have hbW2 : Below W.heap.size W W2 := hb1.trans (hb2.mono hs1)
  have hrO2 := (hbW2.block (w.heap.size + 1) (by omega)).trans hrO
  have hrR2 := (hbW2.block (w.heap.size + 2) (by omega)).trans hrR
  have i1 : W2.cell? ⟨w.heap.size + 1, 1, none⟩ = some (.string (strB nm)) := cell_of_row _ _ 1 _ _ _ hrO2
  have i2 : W2.cell? ⟨w.heap.size + 1, 2, none⟩ = some (.string (strB to)) := cell_of_row _ _ 2 _ _ _ hrO2
  have i3 : W2.cell? ⟨w.heap.size + 1, 3, none⟩ = some (.slice X data.length x) := cell_of_row _ _ 3 _ _ _ hrO2
  have hD2 := hDW.below hBW hbW2
  have hl2 := hl1.below (by omega) hb2
  have ho2 := ho1.below (by omega) hb2
  have hd2 := RdB.below hdW hbW2
  have hB2 : B ≤ W2.heap.size := by omega
  have HW2 := Lib.hid hW2
  clear hW2
  go_wp2_with fail
  rw [← HW2.out]
  refine wp_region_noPanic ?_
  refine beginT (S := (fun w' => w'.heap[w1.heap.size]? = W2.heap[w1.heap.size]? ∧ w'.heap[w.heap.size + 1]? = W2.heap[w.heap.size + 1]?)) 8 (by kernel_rfl) ?_ (fun hHeld => ?_)
  ·exact ⟨rfl, rfl⟩
  refine takeT 0 (some 45) (v := ?_) rfl rfl (by kernel_rfl) (by kernel_rfl) (by kernel_rfl) (by kernel_rfl) (by rfl) hHeld (fun _ _ _ h => h) ?_ ?_
  rotate_left
  ·intro w' hSw; (try dsimp only at hSw); have q0 := (World.cell?_of_block (w := W2) (a := ⟨w1.heap.size, 0, none⟩) hSw.1).trans y0; have q1 := (World.cell?_of_block (w := W2) (a := ⟨w1.heap.size, 1, none⟩) hSw.1).trans y1; go_simp <;> with_reducible rfl
  simp only [Act.put, List.setIfInBounds_toArray, List.set_cons_zero, List.set_cons_succ]
  refine takeT 1 (some 46) (v := ?_) rfl rfl (by kernel_rfl) (by kernel_rfl) (by kernel_rfl) (by kernel_rfl) (by rfl) hHeld (fun _ _ _ h => h) ?_ ?_
  rotate_left
  ·intro w' hSw; (try dsimp only at hSw); go_simp <;> with_reducible rfl
  simp only [Act.put, List.setIfInBounds_toArray, List.set_cons_zero, List.set_cons_succ]
  refine takeT 2 (some 47) (v := ?_) rfl rfl (by kernel_rfl) (by kernel_rfl) (by kernel_rfl) (by kernel_rfl) (by rfl) hHeld (fun _ _ _ h => h) ?_ ?_
  rotate_left
  ·intro w' hSw; (try dsimp only at hSw); go_simp <;> with_reducible rfl
  simp only [Act.put, List.setIfInBounds_toArray, List.set_cons_zero, List.set_cons_succ]
  refine takeT 3 (some 48) (v := ?_) rfl rfl (by kernel_rfl) (by kernel_rfl) (by kernel_rfl) (by kernel_rfl) (by rfl) hHeld (fun _ _ _ h => h) ?_ ?_
  rotate_left
  ·intro w' hSw; (try dsimp only at hSw); have q1 := (World.cell?_of_block (w := W2) (a := ⟨w.heap.size + 1, 1, none⟩) hSw.2).trans i1; have q2 := (World.cell?_of_block (w := W2) (a := ⟨w.heap.size + 1, 2, none⟩) hSw.2).trans i2; have q3 := (World.cell?_of_block (w := W2) (a := ⟨w.heap.size + 1, 3, none⟩) hSw.2).trans i3; go_simp <;> with_reducible rfl
  simp only [Act.put, List.setIfInBounds_toArray, List.set_cons_zero, List.set_cons_succ]
  refine takeT 5 (some 50) (v := ?_) rfl rfl (by kernel_rfl) (by kernel_rfl) (by kernel_rfl) (by kernel_rfl) (by rfl) hHeld (fun _ _ _ h => h) ?_ ?_
  rotate_left
  ·intro w' hSw; (try dsimp only at hSw); have q1 := (World.cell?_of_block (w := W2) (a := ⟨w.heap.size + 1, 1, none⟩) hSw.2).trans i1; have q2 := (World.cell?_of_block (w := W2) (a := ⟨w.heap.size + 1, 2, none⟩) hSw.2).trans i2; have q3 := (World.cell?_of_block (w := W2) (a := ⟨w.heap.size + 1, 3, none⟩) hSw.2).trans i3; go_simp <;> with_reducible rfl
  simp only [Act.put, List.setIfInBounds_toArray, List.set_cons_zero, List.set_cons_succ]
  refine fork1 4 (by kernel_rfl) ?_
  refine callF 4 (some 49) (f := ?_) (args := ?_) rfl rfl (by rfl) ?_ ?_
  rotate_left 2
  ·go_simp <;> first | (constructor <;> with_reducible rfl) | with_reducible rfl
  (with_reducible refine (dremove_ok B Z D P fm os nm _ ?_ ?_ hnl hZ hx).mono ?_)
  ·exact hB2
  ·exact hD2.drew
  rintro e w3 ⟨rfl, P3, hD3, hP3, hC3'⟩
  have hC3 : Chg (fun b => b = D ∨ some b = P) W2 w3 := ⟨hC3'.os, hC3'.tape, hC3'.output, hC3'.size, hC3'.block⟩
  clear hC3'
  have hs3 := hC3.size
  have hY3 : w3.heap[w1.heap.size]? = W2.heap[w1.heap.size]? := hC3.block _ (by omega) (hD2.not_log hrY (by decide) (by decide))
  have hO3 : w3.heap[w.heap.size + 1]? = W2.heap[w.heap.size + 1]? := hC3.block _ (by omega) (hD2.not_log hrO2 (by decide) (by decide))
  have hR3 := (hC3.block (w.heap.size + 2) (by omega) (hD2.not_log hrR2 (by decide) (by decide))).trans hrR2
  have hl3 := hl2.chg hB2 hC3 hD2.br hD2.fr34
  have ho3 := ho2.chg hB2 hC3 hD2.br hD2.dor
  obtain ⟨q0, q1, q2, q3, q6, q4, q5, hC4⟩ := two_store w3 (w.heap.size + 2) (.slice none 0 0) (.slice none 0 0) (.slice A1 fl.length c1) (.slice B1 n1 d1) _ hR3
  have hl4 := FlsRd.box hl3 (by omega) (by omega) hR3 hC4
  have ho4 := DosRd.box ho3 (by omega) (by omega) hR3 hC4
  have hD4 := hD3.keep (by omega) hC4 (fun b hb => by subst hb; exact ⟨by omega, _, _, _, hR3, by decide, by decide, by decide⟩)
  clear q6
  refine ⟨_, rfl, ?_⟩
  refine keepAnd ?_ (fun hNew => ?_)
  ·intro _; exact ⟨hY3, hO3⟩
  have hNew := hNew (by decide)
  clear hHeld
  have hHeld := hNew
  clear hNew
  simp only [Act.put, List.setIfInBounds_toArray, List.set_cons_zero, List.set_cons_succ]
  refine takeT 6 (some 51) (v := ?_) rfl rfl (by kernel_rfl) (by kernel_rfl) (by kernel_rfl) (by kernel_rfl) (by rfl) hHeld (fun _ _ _ h => h) ?_ ?_
  rotate_left
  ·intro w' hSw; (try dsimp only at hSw); go_simp <;> with_reducible rfl
  simp only [Act.put, List.setIfInBounds_toArray, List.set_cons_zero, List.set_cons_succ]
  refine fork1 7 (by kernel_rfl) ?_
  refine skipRunF 7 none (w' := (w3.setCell ⟨w.heap.size + 2, 0, none⟩ (.slice A1 fl.length c1)).setCell ⟨w.heap.size + 2, 1, none⟩ (.slice B1 n1 d1)) rfl rfl (by rfl) ?_ ?_
  ·go_simp <;> with_reducible rfl
  refine keepAnd ?_ (fun hNew => ?_)
  ·intro _; exact ⟨(hC4.block _ (by omega) (by omega)).trans hY3, (hC4.block _ (by omega) (by omega)).trans hO3⟩
  have hNew := hNew (by decide)
  clear hHeld
  have hHeld := hNew
  clear hNew
  simp only [Act.put]
  refine fork1 8 (by kernel_rfl) ?_
  refine runF 8 (some 7) (v := ?_) (w' := ?_) rfl rfl (by rfl) ?_ ?_
  rotate_left 2
  ·go_simp <;> first | with_reducible rfl | (constructor <;> with_reducible rfl)
  refine ⟨fun h => absurd rfl h, ?_⟩
  clear hHeld
  simp only [Act.put, List.setIfInBounds_toArray, List.set_cons_zero, List.set_cons_succ]
  refine doneT (by kernel_rfl) ?_ _
  refine NoPanic.normal ?_
  go_wp2_with fail
  refine bodyPost_ret (v := .tuple #[.agg #[.slice A1 fl.length c1, .slice B1 n1 d1], .bool true]) (by simp [results, Try.results8, go_sem, q4, q5]) rfl ?_
  refine ⟨_, _, P3, rfl, ⟨fm, (os ++ [(⟨1, nm, [], []⟩ : DOp)]), fl, hD4.mono (by (try simp only [List.length_nil]); omega), hl4, ho4, hI, ?_, ?_⟩, ((Chg.of_below (hb0.trans (hbW2.mono (by omega))) _).trans hC3 (fun _ _ h => h)).trans hC4 (fun i hi h => by omega)⟩
  ·exact hK.snoc (by simp) (by simp)
  ·exact (hz.push (by simp)).mono (by simp only [List.length_nil]; omega)
 | false =>
  have hxr : (lookL (viewL fl os) nm).isSome = false := HXE.out.trans hx
  go_enter Try.func8, Try.ntmps8
  go_wp2_with fail
  rw [← HW.out]
  (with_reducible refine (rremove_no B Z _ _ fl os nm W hBW hvW hoW hz hZ hxr).mono ?_)
  rintro e w1 ⟨l1, o1, rfl, hl1, ho1, hb1⟩
  obtain ⟨A1, c1, rfl, s1, s2, s3⟩ := hl1.open_
  obtain ⟨B1, d1, rfl, t1, t2, t3⟩ := ho1.open_
  have HS3 := Lib.hid s3
  have HT3 := Lib.hid t3
  clear s3 t3
  generalize hn1 : os.length = n1 at *
  have HN1 := Lib.hid hn1
  clear hn1
  have hs1 := hb1.size
  obtain ⟨W2, hW2⟩ : ∃ W, W = w1.alloc (.cells #[.slice A1 fl.length c1, .slice B1 n1 d1] 28) := ⟨_, rfl⟩
  have hb2 : Below w1.heap.size w1 W2 := by rw [hW2]; exact Below.of_alloc _
  have hs2 : W2.heap.size = w1.heap.size + 1 := by rw [hW2]; simp
  have hrY : W2.heap[w1.heap.size]? = some (.cells #[.slice A1 fl.length c1, .slice B1 n1 d1] 28 (0, 0)) := by rw [hW2]; exact heap_alloc_new w1 _
  have y0 : W2.cell? ⟨w1.heap.size, 0, none⟩ = some (.slice A1 fl.length c1) := cell_of_row _ _ 0 _ _ _ hrY
  have y1 : W2.cell? ⟨w1.heap.size, 1, none⟩ = some (.slice B1 n1 d1) := cell_of_row _ _ 1 _ _ _ hrY
  have hbW2 : Below W.heap.size W W2 := hb1.trans (hb2.mono hs1)
  have hrO2 := (hbW2.block (w.heap.size + 1) (by omega)).trans hrO
  have hrR2 := (hbW2.block (w.heap.size + 2) (by omega)).trans hrR
  have i1 : W2.cell? ⟨w.heap.size + 1, 1, none⟩ = some (.string (strB nm)) := cell_of_row _ _ 1 _ _ _ hrO2
  have i2 : W2.cell? ⟨w.heap.size + 1, 2, none⟩ = some (.string (strB to)) := cell_of_row _ _ 2 _ _ _ hrO2
  have i3 : W2.cell? ⟨w.heap.size + 1, 3, none⟩ = some (.slice X data.length x) := cell_of_row _ _ 3 _ _ _ hrO2
  have hD2 := hDW.below hBW hbW2
  have hl2 := hl1.below (by omega) hb2
  have ho2 := ho1.below (by omega) hb2
  have hd2 := RdB.below hdW hbW2
  have hB2 : B ≤ W2.heap.size := by omega
  have HW2 := Lib.hid hW2
  clear hW2
  go_wp2_with fail
  rw [← HW2.out]
  refine wp_region_noPanic ?_
  refine beginT (S := (fun w' => w'.heap[w1.heap.size]? = W2.heap[w1.heap.size]? ∧ w'.heap[w.heap.size + 1]? = W2.heap[w.heap.size + 1]?)) 8 (by kernel_rfl) ?_ (fun hHeld => ?_)
  ·exact ⟨rfl, rfl⟩
  refine takeT 0 (some 45) (v := ?_) rfl rfl (by kernel_rfl) (by kernel_rfl) (by kernel_rfl) (by kernel_rfl) (by rfl) hHeld (fun _ _ _ h => h) ?_ ?_
  rotate_left
  ·intro w' hSw; (try dsimp only at hSw); have q0 := (World.cell?_of_block (w := W2) (a := ⟨w1.heap.size, 0, none⟩) hSw.1).trans y0; have q1 := (World.cell?_of_block (w := W2) (a := ⟨w1.heap.size, 1, none⟩) hSw.1).trans y1; go_simp <;> with_reducible rfl
  simp only [Act.put, List.setIfInBounds_toArray, List.set_cons_zero, List.set_cons_succ]
  refine takeT 1 (some 46) (v := ?_) rfl rfl (by kernel_rfl) (by kernel_rfl) (by kernel_rfl) (by kernel_rfl) (by rfl) hHeld (fun _ _ _ h => h) ?_ ?_
  rotate_left
  ·intro w' hSw; (try dsimp only at hSw); go_simp <;> with_reducible rfl
  simp only [Act.put, List.setIfInBounds_toArray, List.set_cons_zero, List.set_cons_succ]
  refine takeT 2 (some 47) (v := ?_) rfl rfl (by kernel_rfl) (by kernel_rfl) (by kernel_rfl) (by kernel_rfl) (by rfl) hHeld (fun _ _ _ h => h) ?_ ?_
  rotate_left
  ·intro w' hSw; (try dsimp only at hSw); go_simp <;> with_reducible rfl
  simp only [Act.put, List.setIfInBounds_toArray, List.set_cons_zero, List.set_cons_succ]
  refine takeT 3 (some 48) (v := ?_) rfl rfl (by kernel_rfl) (by kernel_rfl) (by kernel_rfl) (by kernel_rfl) (by rfl) hHeld (fun _ _ _ h => h) ?_ ?_
  rotate_left
  ·intro w' hSw; (try dsimp only at hSw); have q1 := (World.cell?_of_block (w := W2) (a := ⟨w.heap.size + 1, 1, none⟩) hSw.2).trans i1; have q2 := (World.cell?_of_block (w := W2) (a := ⟨w.heap.size + 1, 2, none⟩) hSw.2).trans i2; have q3 := (World.cell?_of_block (w := W2) (a := ⟨w.heap.size + 1, 3, none⟩) hSw.2).trans i3; go_simp <;> with_reducible rfl
  simp only [Act.put, List.setIfInBounds_toArray, List.set_cons_zero, List.set_cons_succ]
  refine takeT 5 (some 50) (v := ?_) rfl rfl (by kernel_rfl) (by kernel_rfl) (by kernel_rfl) (by kernel_rfl) (by rfl) hHeld (fun _ _ _ h => h) ?_ ?_
  rotate_left
  ·intro w' hSw; (try dsimp only at hSw); have q1 := (World.cell?_of_block (w := W2) (a := ⟨w.heap.size + 1, 1, none⟩) hSw.2).trans i1; have q2 := (World.cell?_of_block (w := W2) (a := ⟨w.heap.size + 1, 2, none⟩) hSw.2).trans i2; have q3 := (World.cell?_of_block (w := W2) (a := ⟨w.heap.size + 1, 3, none⟩) hSw.2).trans i3; go_simp <;> with_reducible rfl
  simp only [Act.put, List.setIfInBounds_toArray, List.set_cons_zero, List.set_cons_succ]
  refine fork1 4 (by kernel_rfl) ?_
  refine callF 4 (some 49) (f := ?_) (args := ?_) rfl rfl (by rfl) ?_ ?_
  rotate_left 2
  ·go_simp <;> first | (constructor <;> with_reducible rfl) | with_reducible rfl
  (with_reducible refine (dremove_no B Z D P fm os nm _ ?_ ?_ hnl hZ hx (Z + data.length + 1) (by omega)).mono ?_)
  ·exact hB2
  ·exact hD2.drew
  rintro e w3 ⟨rfl, P3, hD3, hP3, hC3'⟩
  have hC3 : Chg (fun b => b = D ∨ some b = P) W2 w3 := ⟨hC3'.os, hC3'.tape, hC3'.output, hC3'.size, hC3'.block⟩
  clear hC3'
  have hs3 := hC3.size
  have hY3 : w3.heap[w1.heap.size]? = W2.heap[w1.heap.size]? := hC3.block _ (by omega) (hD2.not_log hrY (by decide) (by decide))
  have hO3 : w3.heap[w.heap.size + 1]? = W2.heap[w.heap.size + 1]? := hC3.block _ (by omega) (hD2.not_log hrO2 (by decide) (by decide))
  have hR3 := (hC3.block (w.heap.size + 2) (by omega) (hD2.not_log hrR2 (by decide) (by decide))).trans hrR2
  have hl3 := hl2.chg hB2 hC3 hD2.br hD2.fr34
  have ho3 := ho2.chg hB2 hC3 hD2.br hD2.dor
  obtain ⟨q0, q1, q2, q3, q6, q4, q5, hC4⟩ := two_store w3 (w.heap.size + 2) (.slice none 0 0) (.slice none 0 0) (.slice A1 fl.length c1) (.slice B1 n1 d1) _ hR3
  have hl4 := FlsRd.box hl3 (by omega) (by omega) hR3 hC4
  have ho4 := DosRd.box ho3 (by omega) (by omega) hR3 hC4
  have hD4 := hD3.keep (by omega) hC4 (fun b hb => by subst hb; exact ⟨by omega, _, _, _, hR3, by decide, by decide, by decide⟩)
  clear q6
  refine ⟨_, rfl, ?_⟩
  refine keepAnd ?_ (fun hNew => ?_)
  ·intro _; exact ⟨hY3, hO3⟩
  have hNew := hNew (by decide)
  clear hHeld
  have hHeld := hNew
  clear hNew
  simp only [Act.put, List.setIfInBounds_toArray, List.set_cons_zero, List.set_cons_succ]
  refine takeT 6 (some 51) (v := ?_) rfl rfl (by kernel_rfl) (by kernel_rfl) (by kernel_rfl) (by kernel_rfl) (by rfl) hHeld (fun _ _ _ h => h) ?_ ?_
  rotate_left
  ·intro w' hSw; (try dsimp only at hSw); go_simp <;> with_reducible rfl
  simp only [Act.put, List.setIfInBounds_toArray, List.set_cons_zero, List.set_cons_succ]
  refine fork1 7 (by kernel_rfl) ?_
  refine skipRunF 7 none (w' := (w3.setCell ⟨w.heap.size + 2, 0, none⟩ (.slice A1 fl.length c1)).setCell ⟨w.heap.size + 2, 1, none⟩ (.slice B1 n1 d1)) rfl rfl (by rfl) ?_ ?_
  ·go_simp <;> with_reducible rfl
  refine keepAnd ?_ (fun hNew => ?_)
  ·intro _; exact ⟨(hC4.block _ (by omega) (by omega)).trans hY3, (hC4.block _ (by omega) (by omega)).trans hO3⟩
  have hNew := hNew (by decide)
  clear hHeld
  have hHeld := hNew
  clear hNew
  simp only [Act.put]
  refine fork1 8 (by kernel_rfl) ?_
  refine runF 8 (some 7) (v := ?_) (w' := ?_) rfl rfl (by rfl) ?_ ?_
  rotate_left 2
  ·go_simp <;> first | with_reducible rfl | (constructor <;> with_reducible rfl)
  refine ⟨fun h => absurd rfl h, ?_⟩
  clear hHeld
  simp only [Act.put, List.setIfInBounds_toArray, List.set_cons_zero, List.set_cons_succ]
  refine doneT (by kernel_rfl) ?_ _
  refine NoPanic.normal ?_
  go_wp2_with fail
  refine bodyPost_ret (v := .tuple #[.agg #[.slice A1 fl.length c1, .slice B1 n1 d1], .bool true]) (by simp [results, Try.results8, go_sem, q4, q5]) rfl ?_
  refine ⟨_, _, P3, rfl, ⟨fm, os, fl, hD4.mono (by (try simp only [List.length_nil]); omega), hl4, ho4, hI, ?_, ?_⟩, ((Chg.of_below (hb0.trans (hbW2.mono (by omega))) _).trans hC3 (fun _ _ h => h)).trans hC4 (fun i hi h => by omega)⟩
  ·exact hK
  ·exact hz.mono (by omega)
set_option maxRecDepth 100000 in
set_option maxHeartbeats 4000000 in
theorem do2 [Inhabited Nb] (B Z D : Nat) (P : Option Nat) (lv ov : Value) (q : LOp) (dv : Value) (w : World) (hB : B ≤ w.heap.size) (hb : Both B Z w D P lv ov) (hd : RdB w (· < w.heap.size) dv q.data) (hZ : Z ≤ 1099511627776) (hdl : q.data.length ≤ 1099511627776) (hnl : q.name.length ≤ maxLen) (htl : q.to.length ≤ maxLen) (hkd : q.kind = 2) :
  Calls Try.prog 8 #[.pointer (some ⟨D, 0, none⟩), .agg #[lv, ov], .agg #[.int .i64 q.kind, .string (strB q.name), .string (strB q.to), dv, .int .i64 q.keep, .int .i64 q.torn]] w (DoOut B (Z + q.data.length + 1) D P w) := by
 obtain ⟨kd, nm, to, data, kp, tn⟩ := q
 simp only at *
 obtain ⟨fm, os, fl, hD, hv, ho, hI, hK, hz⟩ := hb
 obtain ⟨A, c, rfl, a1, a2, a3⟩ := hv.open_
 obtain ⟨Ao, co, rfl, b1, b2, b3⟩ := ho.open_
 obtain ⟨X, x, rfl, x1, x2, x3⟩ := Rd.open_ hd
 have HA3 := Lib.hid a3
 have HB3 := Lib.hid b3
 have HX3 := Lib.hid x3
 clear a3 b3 x3
 have hol : os.length ≤ 1099511627776 := by have := hz.len; omega
 have HIV := Lib.hid (hI.view hK)
 obtain ⟨W, hW⟩ : ∃ W, W = ((w.alloc (.cells #[.slice A fl.length c, .slice Ao os.length co] 28)).alloc (.cells #[.int .i64 kd, .string (strB nm), .string (strB to), .slice X data.length x, .int .i64 kp, .int .i64 tn] 35)).alloc (.cells #[.slice none 0 0, .slice none 0 0] 28) := ⟨_, rfl⟩
 have hWs : W.heap.size = w.heap.size + 3 := by rw [hW]; simp
 have hb0 : Below w.heap.size w W := by rw [hW]; exact ((Below.of_alloc _).trans ((Below.of_alloc _).mono (by simp))).trans ((Below.of_alloc _).mono (by simp; omega))
 have hrD : W.heap[w.heap.size]? = some (.cells #[.slice A fl.length c, .slice Ao os.length co] 28 (0, 0)) := by
  rw [hW, Below.heap_alloc _ _ _ (by simp; omega), Below.heap_alloc _ _ _ (by simp)]; exact heap_alloc_new w _
 have hrO : W.heap[w.heap.size + 1]? = some (.cells #[.int .i64 kd, .string (strB nm), .string (strB to), .slice X data.length x, .int .i64 kp, .int .i64 tn] 35 (0, 0)) := by
  rw [hW, Below.heap_alloc _ _ _ (by simp)]
  have := heap_alloc_new (w.alloc (.cells #[.slice A fl.length c, .slice Ao os.length co] 28)) (.cells #[.int .i64 kd, .string (strB nm), .string (strB to), .slice X data.length x, .int .i64 kp, .int .i64 tn] 35)
  simpa using this
 have hrR : W.heap[w.heap.size + 2]? = some (.cells #[.slice none 0 0, .slice none 0 0] 28 (0, 0)) := by
  have := heap_alloc_new ((w.alloc (.cells #[.slice A fl.length c, .slice Ao os.length co] 28)).alloc (.cells #[.int .i64 kd, .string (strB nm), .string (strB to), .slice X data.length x, .int .i64 kp, .int .i64 tn] 35)) (.cells #[.slice none 0 0, .slice none 0 0] 28)
  rw [hW]; simpa using this
 have hBW : B ≤ W.heap.size := by omega
 have hDW := hD.below hB hb0
 have hvW := hv.below hB hb0
 have hoW := ho.below hB hb0
 have hdW := RdB.below hd hb0
 have k0 : W.cell? ⟨w.heap.size, 0, none⟩ = some (.slice A fl.length c) := cell_of_row _ _ 0 _ _ _ hrD
 have k1 : W.cell? ⟨w.heap.size, 1, none⟩ = some (.slice Ao os.length co) := cell_of_row _ _ 1 _ _ _ hrD
 have j0 : W.cell? ⟨w.heap.size + 1, 0, none⟩ = some (.int .i64 kd) := cell_of_row _ _ 0 _ _ _ hrO
 have j1 : W.cell? ⟨w.heap.size + 1, 1, none⟩ = some (.string (strB nm)) := cell_of_row _ _ 1 _ _ _ hrO
 have j2 : W.cell? ⟨w.heap.size + 1, 2, none⟩ = some (.string (strB to)) := cell_of_row _ _ 2 _ _ _ hrO
 have j3 : W.cell? ⟨w.heap.size + 1, 3, none⟩ = some (.slice X data.length x) := cell_of_row _ _ 3 _ _ _ hrO
 have j4 : W.cell? ⟨w.heap.size + 1, 4, none⟩ = some (.int .i64 kp) := cell_of_row _ _ 4 _ _ _ hrO
 have j5 : W.cell? ⟨w.heap.size + 1, 5, none⟩ = some (.int .i64 tn) := cell_of_row _ _ 5 _ _ _ hrO
 have HW := Lib.hid hW
 clear hW hD hv ho hd
 subst hkd
 have HXE := Lib.hid (congrArg Option.isSome (HIV.out.2 nm))
 cases hx : (viewF fm os nm).isSome with
 | true =>
  have hxr : (lookL (viewL fl os) nm).isSome = true := HXE.out.trans hx
  cases hw : wordF to with
  | true =>
   go_enter Try.func8, Try.ntmps8
   go_wp2_with fail
   rw [← HW.out]
   (with_reducible refine (rrename_ok B Z _ _ fl os nm to W hBW hvW hoW hz hZ hxr htl hw hol).mono ?_)
   rintro e w1 ⟨l1, o1, rfl, hl1, ho1, hb1⟩
   obtain ⟨A1, c1, rfl, s1, s2, s3⟩ := hl1.open_
   obtain ⟨B1, d1, rfl, t1, t2, t3⟩ := ho1.open_
   have HS3 := Lib.hid s3
   have HT3 := Lib.hid t3
   clear s3 t3
   generalize hn1 : (os ++ [(⟨2, nm, to, []⟩ : DOp)]).length = n1 at *
   have HN1 := Lib.hid hn1
   clear hn1
   have hs1 := hb1.size
   obtain ⟨W2, hW2⟩ : ∃ W, W = w1.alloc (.cells #[.slice A1 fl.length c1, .slice B1 n1 d1] 28) := ⟨_, rfl⟩
   have hb2 : Below w1.heap.size w1 W2 := by rw [hW2]; exact Below.of_alloc _
   have hs2 : W2.heap.size = w1.heap.size + 1 := by rw [hW2]; simp
   have hrY : W2.heap[w1.heap.size]? = some (.cells #[.slice A1 fl.length c1, .slice B1 n1 d1] 28 (0, 0)) := by rw [hW2]; exact heap_alloc_new w1 _
   have y0 : W2.cell? ⟨w1.heap.size, 0, none⟩ = some (.slice A1 fl.length c1) := cell_of_row _ _ 0 _ _ _ hrY
   have y1 : W2.cell? ⟨w1.heap.size, 1, none⟩ = some (.slice B1 n1 d1) := cell_of_row _ _ 1 _ _ _ hrY
   have hbW2 : Below W.heap.size W W2 := hb1.trans (hb2.mono hs1)
   have hrO2 := (hbW2.block (w.heap.size + 1) (by omega)).trans hrO
   have hrR2 := (hbW2.block (w.heap.size + 2) (by omega)).trans hrR
   have i1 : W2.cell? ⟨w.heap.size + 1, 1, none⟩ = some (.string (strB nm)) := cell_of_row _ _ 1 _ _ _ hrO2
   have i2 : W2.cell? ⟨w.heap.size + 1, 2, none⟩ = some (.string (strB to)) := cell_of_row _ _ 2 _ _ _ hrO2
   have i3 : W2.cell? ⟨w.heap.size + 1, 3, none⟩ = some (.slice X data.length x) := cell_of_row _ _ 3 _ _ _ hrO2
   have hD2 := hDW.below hBW hbW2
   have hl2 := hl1.below (by omega) hb2
   have ho2 := ho1.below (by omega) hb2
   have hd2 := RdB.below hdW hbW2
   have hB2 : B ≤ W2.heap.size := by omega
   have HW2 := Lib.hid hW2
   clear hW2
   go_wp2_with fail
   rw [← HW2.out]
   refine wp_region_noPanic ?_
   refine beginT (S := (fun w' => w'.heap[w1.heap.size]? = W2.heap[w1.heap.size]? ∧ w'.heap[w.heap.size + 1]? = W2.heap[w.heap.size + 1]?)) 10 (by kernel_rfl) ?_ (fun hHeld => ?_)
   ·exact ⟨rfl, rfl⟩
   refine takeT 0 (some 63) (v := ?_) rfl rfl (by kernel_rfl) (by kernel_rfl) (by kernel_rfl) (by kernel_rfl) (by rfl) hHeld (fun _ _ _ h => h) ?_ ?_
   rotate_left
   ·intro w' hSw; (try dsimp only at hSw); have q0 := (World.cell?_of_block (w := W2) (a := ⟨w1.heap.size, 0, none⟩) hSw.1).trans y0; have q1 := (World.cell?_of_block (w := W2) (a := ⟨w1.heap.size, 1, none⟩) hSw.1).trans y1; go_simp <;> with_reducible rfl
   simp only [Act.put, List.setIfInBounds_toArray, List.set_cons_zero, List.set_cons_succ]
   refine takeT 1 (some 64) (v := ?_) rfl rfl (by kernel_rfl) (by kernel_rfl) (by kernel_rfl) (by kernel_rfl) (by rfl) hHeld (fun _ _ _ h => h) ?_ ?_
   rotate_left
   ·intro w' hSw; (try dsimp only at hSw); go_simp <;> with_reducible rfl
   simp only [Act.put, List.setIfInBounds_toArray, List.set_cons_zero, List.set_cons_succ]
   refine takeT 2 (some 65) (v := ?_) rfl rfl (by kernel_rfl) (by kernel_rfl) (by kernel_rfl) (by kernel_rfl) (by rfl) hHeld (fun _ _ _ h => h) ?_ ?_
   rotate_left
   ·intro w' hSw; (try dsimp only at hSw); go_simp <;> with_reducible rfl
   simp only [Act.put, List.setIfInBounds_toArray, List.set_cons_zero, List.set_cons_succ]
   refine takeT 3 (some 66) (v := ?_) rfl rfl (by kernel_rfl) (by kernel_rfl) (by kernel_rfl) (by kernel_rfl) (by rfl) hHeld (fun _ _ _ h => h) ?_ ?_
   rotate_left
   ·intro w' hSw; (try dsimp only at hSw); have q1 := (World.cell?_of_block (w := W2) (a := ⟨w.heap.size + 1, 1, none⟩) hSw.2).trans i1; have q2 := (World.cell?_of_block (w := W2) (a := ⟨w.heap.size + 1, 2, none⟩) hSw.2).trans i2; have q3 := (World.cell?_of_block (w := W2) (a := ⟨w.heap.size + 1, 3, none⟩) hSw.2).trans i3; go_simp <;> with_reducible rfl
   simp only [Act.put, List.setIfInBounds_toArray, List.set_cons_zero, List.set_cons_succ]
   refine takeT 4 (some 67) (v := ?_) rfl rfl (by kernel_rfl) (by kernel_rfl) (by kernel_rfl) (by kernel_rfl) (by rfl) hHeld (fun _ _ _ h => h) ?_ ?_
   rotate_left
   ·intro w' hSw; (try dsimp only at hSw); go_simp <;> with_reducible rfl
   simp only [Act.put, List.setIfInBounds_toArray, List.set_cons_zero, List.set_cons_succ]
   refine takeT 5 (some 68) (v := ?_) rfl rfl (by kernel_rfl) (by kernel_rfl) (by kernel_rfl) (by kernel_rfl) (by rfl) hHeld (fun _ _ _ h => h) ?_ ?_
   rotate_left
   ·intro w' hSw; (try dsimp only at hSw); have q1 := (World.cell?_of_block (w := W2) (a := ⟨w.heap.size + 1, 1, none⟩) hSw.2).trans i1; have q2 := (World.cell?_of_block (w := W2) (a := ⟨w.heap.size + 1, 2, none⟩) hSw.2).trans i2; have q3 := (World.cell?_of_block (w := W2) (a := ⟨w.heap.size + 1, 3, none⟩) hSw.2).trans i3; go_simp <;> with_reducible rfl
   simp only [Act.put, List.setIfInBounds_toArray, List.set_cons_zero, List.set_cons_succ]
   refine takeT 7 (some 70) (v := ?_) rfl rfl (by kernel_rfl) (by kernel_rfl) (by kernel_rfl) (by kernel_rfl) (by rfl) hHeld (fun _ _ _ h => h) ?_ ?_
   rotate_left
   ·intro w' hSw; (try dsimp only at hSw); go_simp <;> with_reducible rfl
   simp only [Act.put, List.setIfInBounds_toArray, List.set_cons_zero, List.set_cons_succ]
   refine fork1 6 (by kernel_rfl) ?_
   refine callF 6 (some 69) (f := ?_) (args := ?_) rfl rfl (by rfl) ?_ ?_
   rotate_left 2
   ·go_simp <;> first | (constructor <;> with_reducible rfl) | with_reducible rfl
   (with_reducible refine (drename_ok B Z D P fm os nm to _ ?_ ?_ hnl hZ hx hw).mono ?_)
   ·exact hB2
   ·exact hD2.drew
   rintro e w3 ⟨rfl, P3, hD3, hP3, hC3'⟩
   have hC3 : Chg (fun b => b = D ∨ some b = P) W2 w3 := ⟨hC3'.os, hC3'.tape, hC3'.output, hC3'.size, hC3'.block⟩
   clear hC3'
   have hs3 := hC3.size
   have hY3 : w3.heap[w1.heap.size]? = W2.heap[w1.heap.size]? := hC3.block _ (by omega) (hD2.not_log hrY (by decide) (by decide))
   have hO3 : w3.heap[w.heap.size + 1]? = W2.heap[w.heap.size + 1]? := hC3.block _ (by omega) (hD2.not_log hrO2 (by decide) (by decide))
   have hR3 := (hC3.block (w.heap.size + 2) (by omega) (hD2.not_log hrR2 (by decide) (by decide))).trans hrR2
   have hl3 := hl2.chg hB2 hC3 hD2.br hD2.fr34
   have ho3 := ho2.chg hB2 hC3 hD2.br hD2.dor
   obtain ⟨q0, q1, q2, q3, q6, q4, q5, hC4⟩ := two_store w3 (w.heap.size + 2) (.slice none 0 0) (.slice none 0 0) (.slice A1 fl.length c1) (.slice B1 n1 d1) _ hR3
   have hl4 := FlsRd.box hl3 (by omega) (by omega) hR3 hC4
   have ho4 := DosRd.box ho3 (by omega) (by omega) hR3 hC4
   have hD4 := hD3.keep (by omega) hC4 (fun b hb => by subst hb; exact ⟨by omega, _, _, _, hR3, by decide, by decide, by decide⟩)
   clear q6
   refine ⟨_, rfl, ?_⟩
   refine keepAnd ?_ (fun hNew => ?_)
   ·intro _; exact ⟨hY3, hO3⟩
   have hNew := hNew (by decide)
   clear hHeld
   have hHeld := hNew
   clear hNew
   simp only [Act.put, List.setIfInBounds_toArray, List.set_cons_zero, List.set_cons_succ]
   refine takeT 8 (some 71) (v := ?_) rfl rfl (by kernel_rfl) (by kernel_rfl) (by kernel_rfl) (by kernel_rfl) (by rfl) hHeld (fun _ _ _ h => h) ?_ ?_
   rotate_left
   ·intro w' hSw; (try dsimp only at hSw); go_simp <;> with_reducible rfl
   simp only [Act.put, List.setIfInBounds_toArray, List.set_cons_zero, List.set_cons_succ]
   refine fork1 9 (by kernel_rfl) ?_
   refine skipRunF 9 none (w' := (w3.setCell ⟨w.heap.size + 2, 0, none⟩ (.slice A1 fl.length c1)).setCell ⟨w.heap.size + 2, 1, none⟩ (.slice B1 n1 d1)) rfl rfl (by rfl) ?_ ?_
   ·go_simp <;> with_reducible rfl
   refine keepAnd ?_ (fun hNew => ?_)
   ·intro _; exact ⟨(hC4.block _ (by omega) (by omega)).trans hY3, (hC4.block _ (by omega) (by omega)).trans hO3⟩
   have hNew := hNew (by decide)
   clear hHeld
   have hHeld := hNew
   clear hNew
   simp only [Act.put]
   refine fork1 10 (by kernel_rfl) ?_
   refine runF 10 (some 7) (v := ?_) (w' := ?_) rfl rfl (by rfl) ?_ ?_
   rotate_left 2
   ·go_simp <;> first | with_reducible rfl | (constructor <;> with_reducible rfl)
   refine ⟨fun h => absurd rfl h, ?_⟩
   clear hHeld
   simp only [Act.put, List.setIfInBounds_toArray, List.set_cons_zero, List.set_cons_succ]
   refine doneT (by kernel_rfl) ?_ _
   refine NoPanic.normal ?_
   go_wp2_with fail
   refine bodyPost_ret (v := .tuple #[.agg #[.slice A1 fl.length c1, .slice B1 n1 d1], .bool true]) (by simp [results, Try.results8, go_sem, q4, q5]) rfl ?_
   refine ⟨_, _, P3, rfl, ⟨fm, (os ++ [(⟨2, nm, to, []⟩ : DOp)]), fl, hD4.mono (by (try simp only [List.length_nil]); omega), hl4, ho4, hI, ?_, ?_⟩, ((Chg.of_below (hb0.trans (hbW2.mono (by omega))) _).trans hC3 (fun _ _ h => h)).trans hC4 (fun i hi h => by omega)⟩
   ·exact hK.snoc (by simp) (fun _ => hx)
   ·exact (hz.push (by simp)).mono (by simp only [List.length_nil]; omega)
  | false =>
   go_enter Try.func8, Try.ntmps8
   go_wp2_with fail
   rw [← HW.out]
   (with_reducible refine (rrename_bad B Z _ _ fl os nm to W hBW hvW hoW hz hZ hxr htl hw).mono ?_)
   rintro e w1 ⟨l1, o1, rfl, hl1, ho1, hb1⟩
   obtain ⟨A1, c1, rfl, s1, s2, s3⟩ := hl1.open_
   obtain ⟨B1, d1, rfl, t1, t2, t3⟩ := ho1.open_
   have HS3 := Lib.hid s3
   have HT3 := Lib.hid t3
   clear s3 t3
   generalize hn1 : os.length = n1 at *
   have HN1 := Lib.hid hn1
   clear hn1
   have hs1 := hb1.size
   obtain ⟨W2, hW2⟩ : ∃ W, W = w1.alloc (.cells #[.slice A1 fl.length c1, .slice B1 n1 d1] 28) := ⟨_, rfl⟩
   have hb2 : Below w1.heap.size w1 W2 := by rw [hW2]; exact Below.of_alloc _
   have hs2 : W2.heap.size = w1.heap.size + 1 := by rw [hW2]; simp
   have hrY : W2.heap[w1.heap.size]? = some (.cells #[.slice A1 fl.length c1, .slice B1 n1 d1] 28 (0, 0)) := by rw [hW2]; exact heap_alloc_new w1 _
   have y0 : W2.cell? ⟨w1.heap.size, 0, none⟩ = some (.slice A1 fl.length c1) := cell_of_row _ _ 0 _ _ _ hrY
   have y1 : W2.cell? ⟨w1.heap.size, 1, none⟩ = some (.slice B1 n1 d1) := cell_of_row _ _ 1 _ _ _ hrY
   have hbW2 : Below W.heap.size W W2 := hb1.trans (hb2.mono hs1)
   have hrO2 := (hbW2.block (w.heap.size + 1) (by omega)).trans hrO
   have hrR2 := (hbW2.block (w.heap.size + 2) (by omega)).trans hrR
   have i1 : W2.cell? ⟨w.heap.size + 1, 1, none⟩ = some (.string (strB nm)) := cell_of_row _ _ 1 _ _ _ hrO2
   have i2 : W2.cell? ⟨w.heap.size + 1, 2, none⟩ = some (.string (strB to)) := cell_of_row _ _ 2 _ _ _ hrO2
   have i3 : W2.cell? ⟨w.heap.size + 1, 3, none⟩ = some (.slice X data.length x) := cell_of_row _ _ 3 _ _ _ hrO2
   have hD2 := hDW.below hBW hbW2
   have hl2 := hl1.below (by omega) hb2
   have ho2 := ho1.below (by omega) hb2
   have hd2 := RdB.below hdW hbW2
   have hB2 : B ≤ W2.heap.size := by omega
   have HW2 := Lib.hid hW2
   clear hW2
   go_wp2_with fail
   rw [← HW2.out]
   refine wp_region_noPanic ?_
   refine beginT (S := (fun w' => w'.heap[w1.heap.size]? = W2.heap[w1.heap.size]? ∧ w'.heap[w.heap.size + 1]? = W2.heap[w.heap.size + 1]?)) 10 (by kernel_rfl) ?_ (fun hHeld => ?_)
   ·exact ⟨rfl, rfl⟩
   refine takeT 0 (some 63) (v := ?_) rfl rfl (by kernel_rfl) (by kernel_rfl) (by kernel_rfl) (by kernel_rfl) (by rfl) hHeld (fun _ _ _ h => h) ?_ ?_
   rotate_left
   ·intro w' hSw; (try dsimp only at hSw); have q0 := (World.cell?_of_block (w := W2) (a := ⟨w1.heap.size, 0, none⟩) hSw.1).trans y0; have q1 := (World.cell?_of_block (w := W2) (a := ⟨w1.heap.size, 1, none⟩) hSw.1).trans y1; go_simp <;> with_reducible rfl
   simp only [Act.put, List.setIfInBounds_toArray, List.set_cons_zero, List.set_cons_succ]
   refine takeT 1 (some 64) (v := ?_) rfl rfl (by kernel_rfl) (by kernel_rfl) (by kernel_rfl) (by kernel_rfl) (by rfl) hHeld (fun _ _ _ h => h) ?_ ?_
   rotate_left
   ·intro w' hSw; (try dsimp only at hSw); go_simp <;> with_reducible rfl
   simp only [Act.put, List.setIfInBounds_toArray, List.set_cons_zero, List.set_cons_succ]
   refine takeT 2 (some 65) (v := ?_) rfl rfl (by kernel_rfl) (by kernel_rfl) (by kernel_rfl) (by kernel_rfl) (by rfl) hHeld (fun _ _ _ h => h) ?_ ?_
   rotate_left
   ·intro w' hSw; (try dsimp only at hSw); go_simp <;> with_reducible rfl
   simp only [Act.put, List.setIfInBounds_toArray, List.set_cons_zero, List.set_cons_succ]
   refine takeT 3 (some 66) (v := ?_) rfl rfl (by kernel_rfl) (by kernel_rfl) (by kernel_rfl) (by kernel_rfl) (by rfl) hHeld (fun _ _ _ h => h) ?_ ?_
   rotate_left
   ·intro w' hSw; (try dsimp only at hSw); have q1 := (World.cell?_of_block (w := W2) (a := ⟨w.heap.size + 1, 1, none⟩) hSw.2).trans i1; have q2 := (World.cell?_of_block (w := W2) (a := ⟨w.heap.size + 1, 2, none⟩) hSw.2).trans i2; have q3 := (World.cell?_of_block (w := W2) (a := ⟨w.heap.size + 1, 3, none⟩) hSw.2).trans i3; go_simp <;> with_reducible rfl
   simp only [Act.put, List.setIfInBounds_toArray, List.set_cons_zero, List.set_cons_succ]
   refine takeT 4 (some 67) (v := ?_) rfl rfl (by kernel_rfl) (by kernel_rfl) (by kernel_rfl) (by kernel_rfl) (by rfl) hHeld (fun _ _ _ h => h) ?_ ?_
   rotate_left
   ·intro w' hSw; (try dsimp only at hSw); go_simp <;> with_reducible rfl
   simp only [Act.put, List.setIfInBounds_toArray, List.set_cons_zero, List.set_cons_succ]
   refine takeT 5 (some 68) (v := ?_) rfl rfl (by kernel_rfl) (by kernel_rfl) (by kernel_rfl) (by kernel_rfl) (by rfl) hHeld (fun _ _ _ h => h) ?_ ?_
   rotate_left
   ·intro w' hSw; (try dsimp only at hSw); have q1 := (World.cell?_of_block (w := W2) (a := ⟨w.heap.size + 1, 1, none⟩) hSw.2).trans i1; have q2 := (World.cell?_of_block (w := W2) (a := ⟨w.heap.size + 1, 2, none⟩) hSw.2).trans i2; have q3 := (World.cell?_of_block (w := W2) (a := ⟨w.heap.size + 1, 3, none⟩) hSw.2).trans i3; go_simp <;> with_reducible rfl
   simp only [Act.put, List.setIfInBounds_toArray, List.set_cons_zero, List.set_cons_succ]
   refine takeT 7 (some 70) (v := ?_) rfl rfl (by kernel_rfl) (by kernel_rfl) (by kernel_rfl) (by kernel_rfl) (by rfl) hHeld (fun _ _ _ h => h) ?_ ?_
   rotate_left
   ·intro w' hSw; (try dsimp only at hSw); go_simp <;> with_reducible rfl
   simp only [Act.put, List.setIfInBounds_toArray, List.set_cons_zero, List.set_cons_succ]
   refine fork1 6 (by kernel_rfl) ?_
   refine callF 6 (some 69) (f := ?_) (args := ?_) rfl rfl (by rfl) ?_ ?_
   rotate_left 2
   ·go_simp <;> first | (constructor <;> with_reducible rfl) | with_reducible rfl
   (with_reducible refine (drename_bad B Z D P fm os nm to _ ?_ ?_ hnl hZ hx hw (Z + data.length + 1) (by omega)).mono ?_)
   ·exact hB2
   ·exact hD2.drew
   rintro e w3 ⟨rfl, P3, hD3, hP3, hC3'⟩
   have hC3 : Chg (fun b => b = D ∨ some b = P) W2 w3 := ⟨hC3'.os, hC3'.tape, hC3'.output, hC3'.size, hC3'.block⟩
   clear hC3'
   have hs3 := hC3.size
   have hY3 : w3.heap[w1.heap.size]? = W2.heap[w1.heap.size]? := hC3.block _ (by omega) (hD2.not_log hrY (by decide) (by decide))
   have hO3 : w3.heap[w.heap.size + 1]? = W2.heap[w.heap.size + 1]? := hC3.block _ (by omega) (hD2.not_log hrO2 (by decide) (by decide))
   have hR3 := (hC3.block (w.heap.size + 2) (by omega) (hD2.not_log hrR2 (by decide) (by decide))).trans hrR2
   have hl3 := hl2.chg hB2 hC3 hD2.br hD2.fr34
   have ho3 := ho2.chg hB2 hC3 hD2.br hD2.dor
   obtain ⟨q0, q1, q2, q3, q6, q4, q5, hC4⟩ := two_store w3 (w.heap.size + 2) (.slice none 0 0) (.slice none 0 0) (.slice A1 fl.length c1) (.slice B1 n1 d1) _ hR3
   have hl4 := FlsRd.box hl3 (by omega) (by omega) hR3 hC4
   have ho4 := DosRd.box ho3 (by omega) (by omega) hR3 hC4
   have hD4 := hD3.keep (by omega) hC4 (fun b hb => by subst hb; exact ⟨by omega, _, _, _, hR3, by decide, by decide, by decide⟩)
   clear q6
   refine ⟨_, rfl, ?_⟩
   refine keepAnd ?_ (fun hNew => ?_)
   ·intro _; exact ⟨hY3, hO3⟩
   have hNew := hNew (by decide)
   clear hHeld
   have hHeld := hNew
   clear hNew
   simp only [Act.put, List.setIfInBounds_toArray, List.set_cons_zero, List.set_cons_succ]
   refine takeT 8 (some 71) (v := ?_) rfl rfl (by kernel_rfl) (by kernel_rfl) (by kernel_rfl) (by kernel_rfl) (by rfl) hHeld (fun _ _ _ h => h) ?_ ?_
   rotate_left
   ·intro w' hSw; (try dsimp only at hSw); go_simp <;> with_reducible rfl
   simp only [Act.put, List.setIfInBounds_toArray, List.set_cons_zero, List.set_cons_succ]
   refine fork1 9 (by kernel_rfl) ?_
   refine skipRunF 9 none (w' := (w3.setCell ⟨w.heap.size + 2, 0, none⟩ (.slice A1 fl.length c1)).setCell ⟨w.heap.size + 2, 1, none⟩ (.slice B1 n1 d1)) rfl rfl (by rfl) ?_ ?_
   ·go_simp <;> with_reducible rfl
   refine keepAnd ?_ (fun hNew => ?_)
   ·intro _; exact ⟨(hC4.block _ (by omega) (by omega)).trans hY3, (hC4.block _ (by omega) (by omega)).trans hO3⟩
   have hNew := hNew (by decide)
   clear hHeld
   have hHeld := hNew
   clear hNew
   simp only [Act.put]
   refine fork1 10 (by kernel_rfl) ?_
   refine runF 10 (some 7) (v := ?_) (w' := ?_) rfl rfl (by rfl) ?_ ?_
   rotate_left 2
   ·go_simp <;> first | with_reducible rfl | (constructor <;> with_reducible rfl)
   refine ⟨fun h => absurd rfl h, ?_⟩
   clear hHeld
   simp only [Act.put, List.setIfInBounds_toArray, List.set_cons_zero, List.set_cons_succ]
   refine doneT (by kernel_rfl) ?_ _
   refine NoPanic.normal ?_
   go_wp2_with fail
   refine bodyPost_ret (v := .tuple #[.agg #[.slice A1 fl.length c1, .slice B1 n1 d1], .bool true]) (by simp [results, Try.results8, go_sem, q4, q5]) rfl ?_
   refine ⟨_, _, P3, rfl, ⟨fm, os, fl, hD4.mono (by (try simp only [List.length_nil]); omega), hl4, ho4, hI, ?_, ?_⟩, ((Chg.of_below (hb0.trans (hbW2.mono (by omega))) _).trans hC3 (fun _ _ h => h)).trans hC4 (fun i hi h => by omega)⟩
   ·exact hK
   ·exact hz.mono (by omega)
 | false =>
  have hxr : (lookL (viewL fl os) nm).isSome = false := HXE.out.trans hx
  go_enter Try.func8, Try.ntmps8
  go_wp2_with fail
  rw [← HW.out]
  (with_reducible refine (rrename_no B Z _ _ fl os nm to W hBW hvW hoW hz hZ hxr).mono ?_)
  rintro e w1 ⟨l1, o1, rfl, hl1, ho1, hb1⟩
  obtain ⟨A1, c1, rfl, s1, s2, s3⟩ := hl1.open_
  obtain ⟨B1, d1, rfl, t1, t2, t3⟩ := ho1.open_
  have HS3 := Lib.hid s3
  have HT3 := Lib.hid t3
  clear s3 t3
  generalize hn1 : os.length = n1 at *
  have HN1 := Lib.hid hn1
  clear hn1
  have hs1 := hb1.size
  obtain ⟨W2, hW2⟩ : ∃ W, W = w1.alloc (.cells #[.slice A1 fl.length c1, .slice B1 n1 d1] 28) := ⟨_, rfl⟩
  have hb2 : Below w1.heap.size w1 W2 := by rw [hW2]; exact Below.of_alloc _
  have hs2 : W2.heap.size = w1.heap.size + 1 := by rw [hW2]; simp
  have hrY : W2.heap[w1.heap.size]? = some (.cells #[.slice A1 fl.length c1, .slice B1 n1 d1] 28 (0, 0)) := by rw [hW2]; exact heap_alloc_new w1 _
  have y0 : W2.cell? ⟨w1.heap.size, 0, none⟩ = some (.slice A1 fl.length c1) := cell_of_row _ _ 0 _ _ _ hrY
  have y1 : W2.cell? ⟨w1.heap.size, 1, none⟩ = some (.slice B1 n1 d1) := cell_of_row _ _ 1 _ _ _ hrY
  have hbW2 : Below W.heap.size W W2 := hb1.trans (hb2.mono hs1)
  have hrO2 := (hbW2.block (w.heap.size + 1) (by omega)).trans hrO
  have hrR2 := (hbW2.block (w.heap.size + 2) (by omega)).trans hrR
  have i1 : W2.cell? ⟨w.heap.size + 1, 1, none⟩ = some (.string (strB nm)) := cell_of_row _ _ 1 _ _ _ hrO2
  have i2 : W2.cell? ⟨w.heap.size + 1, 2, none⟩ = some (.string (strB to)) := cell_of_row _ _ 2 _ _ _ hrO2
  have i3 : W2.cell? ⟨w.heap.size + 1, 3, none⟩ = some (.slice X data.length x) := cell_of_row _ _ 3 _ _ _ hrO2
  have hD2 := hDW.below hBW hbW2
  have hl2 := hl1.below (by omega) hb2
  have ho2 := ho1.below (by omega) hb2
  have hd2 := RdB.below hdW hbW2
  have hB2 : B ≤ W2.heap.size := by omega
  have HW2 := Lib.hid hW2
  clear hW2
  go_wp2_with fail
  rw [← HW2.out]
  refine wp_region_noPanic ?_
  refine beginT (S := (fun w' => w'.heap[w1.heap.size]? = W2.heap[w1.heap.size]? ∧ w'.heap[w.heap.size + 1]? = W2.heap[w.heap.size + 1]?)) 10 (by kernel_rfl) ?_ (fun hHeld => ?_)
  ·exact ⟨rfl, rfl⟩
  refine takeT 0 (some 63) (v := ?_) rfl rfl (by kernel_rfl) (by kernel_rfl) (by kernel_rfl) (by kernel_rfl) (by rfl) hHeld (fun _ _ _ h => h) ?_ ?_
  rotate_left
  ·intro w' hSw; (try dsimp only at hSw); have q0 := (World.cell?_of_block (w := W2) (a := ⟨w1.heap.size, 0, none⟩) hSw.1).trans y0; have q1 := (World.cell?_of_block (w := W2) (a := ⟨w1.heap.size, 1, none⟩) hSw.1).trans y1; go_simp <;> with_reducible rfl
  simp only [Act.put, List.setIfInBounds_toArray, List.set_cons_zero, List.set_cons_succ]
  refine takeT 1 (some 64) (v := ?_) rfl rfl (by kernel_rfl) (by kernel_rfl) (by kernel_rfl) (by kernel_rfl) (by rfl) hHeld (fun _ _ _ h => h) ?_ ?_
  rotate_left
  ·intro w' hSw; (try dsimp only at hSw); go_simp <;> with_reducible rfl
  simp only [Act.put, List.setIfInBounds_toArray, List.set_cons_zero, List.set_cons_succ]
  refine takeT 2 (some 65) (v := ?_) rfl rfl (by kernel_rfl) (by kernel_rfl) (by kernel_rfl) (by kernel_rfl) (by rfl) hHeld (fun _ _ _ h => h) ?_ ?_
  rotate_left
  ·intro w' hSw; (try dsimp only at hSw); go_simp <;> with_reducible rfl
  simp only [Act.put, List.setIfInBounds_toArray, List.set_cons_zero, List.set_cons_succ]
  refine takeT 3 (some 66) (v := ?_) rfl rfl (by kernel_rfl) (by kernel_rfl) (by kernel_rfl) (by kernel_rfl) (by rfl) hHeld (fun _ _ _ h => h) ?_ ?_
  rotate_left
  ·intro w' hSw; (try dsimp only at hSw); have q1 := (World.cell?_of_block (w := W2) (a := ⟨w.heap.size + 1, 1, none⟩) hSw.2).trans i1; have q2 := (World.cell?_of_block (w := W2) (a := ⟨w.heap.size + 1, 2, none⟩) hSw.2).trans i2; have q3 := (World.cell?_of_block (w := W2) (a := ⟨w.heap.size + 1, 3, none⟩) hSw.2).trans i3; go_simp <;> with_reducible rfl
  simp only [Act.put, List.setIfInBounds_toArray, List.set_cons_zero, List.set_cons_succ]
  refine takeT 4 (some 67) (v := ?_) rfl rfl (by kernel_rfl) (by kernel_rfl) (by kernel_rfl) (by kernel_rfl) (by rfl) hHeld (fun _ _ _ h => h) ?_ ?_
  rotate_left
  ·intro w' hSw; (try dsimp only at hSw); go_simp <;> with_reducible rfl
  simp only [Act.put, List.setIfInBounds_toArray, List.set_cons_zero, List.set_cons_succ]
  refine takeT 5 (some 68) (v := ?_) rfl rfl (by kernel_rfl) (by kernel_rfl) (by kernel_rfl) (by kernel_rfl) (by rfl) hHeld (fun _ _ _ h => h) ?_ ?_
  rotate_left
  ·intro w' hSw; (try dsimp only at hSw); have q1 := (World.cell?_of_block (w := W2) (a := ⟨w.heap.size + 1, 1, none⟩) hSw.2).trans i1; have q2 := (World.cell?_of_block (w := W2) (a := ⟨w.heap.size + 1, 2, none⟩) hSw.2).trans i2; have q3 := (World.cell?_of_block (w := W2) (a := ⟨w.heap.size + 1, 3, none⟩) hSw.2).trans i3; go_simp <;> with_reducible rfl
  simp only [Act.put, List.setIfInBounds_toArray, List.set_cons_zero, List.set_cons_succ]
  refine takeT 7 (some 70) (v := ?_) rfl rfl (by kernel_rfl) (by kernel_rfl) (by kernel_rfl) (by kernel_rfl) (by rfl) hHeld (fun _ _ _ h => h) ?_ ?_
  rotate_left
  ·intro w' hSw; (try dsimp only at hSw); go_simp <;> with_reducible rfl
  simp only [Act.put, List.setIfInBounds_toArray, List.set_cons_zero, List.set_cons_succ]
  refine fork1 6 (by kernel_rfl) ?_
  refine callF 6 (some 69) (f := ?_) (args := ?_) rfl rfl (by rfl) ?_ ?_
  rotate_left 2
  ·go_simp <;> first | (constructor <;> with_reducible rfl) | with_reducible rfl
  (with_reducible refine (drename_no B Z D P fm os nm to _ ?_ ?_ hnl hZ hx (Z + data.length + 1) (by omega)).mono ?_)
  ·exact hB2
  ·exact hD2.drew
  rintro e w3 ⟨rfl, P3, hD3, hP3, hC3'⟩
  have hC3 : Chg (fun b => b = D ∨ some b = P) W2 w3 := ⟨hC3'.os, hC3'.tape, hC3'.output, hC3'.size, hC3'.block⟩
  clear hC3'
  have hs3 := hC3.size
  have hY3 : w3.heap[w1.heap.size]? = W2.heap[w1.heap.size]? := hC3.block _ (by omega) (hD2.not_log hrY (by decide) (by decide))
  have hO3 : w3.heap[w.heap.size + 1]? = W2.heap[w.heap.size + 1]? := hC3.block _ (by omega) (hD2.not_log hrO2 (by decide) (by decide))
  have hR3 := (hC3.block (w.heap.size + 2) (by omega) (hD2.not_log hrR2 (by decide) (by decide))).trans hrR2
  have hl3 := hl2.chg hB2 hC3 hD2.br hD2.fr34
  have ho3 := ho2.chg hB2 hC3 hD2.br hD2.dor
  obtain ⟨q0, q1, q2, q3, q6, q4, q5, hC4⟩ := two_store w3 (w.heap.size + 2) (.slice none 0 0) (.slice none 0 0) (.slice A1 fl.length c1) (.slice B1 n1 d1) _ hR3
  have hl4 := FlsRd.box hl3 (by omega) (by omega) hR3 hC4
  have ho4 := DosRd.box ho3 (by omega) (by omega) hR3 hC4
  have hD4 := hD3.keep (by omega) hC4 (fun b hb => by subst hb; exact ⟨by omega, _, _, _, hR3, by decide, by decide, by decide⟩)
  clear q6
  refine ⟨_, rfl, ?_⟩
  refine keepAnd ?_ (fun hNew => ?_)
  ·intro _; exact ⟨hY3, hO3⟩
  have hNew := hNew (by decide)
  clear hHeld
  have hHeld := hNew
  clear hNew
  simp only [Act.put, List.setIfInBounds_toArray, List.set_cons_zero, List.set_cons_succ]
  refine takeT 8 (some 71) (v := ?_) rfl rfl (by kernel_rfl) (by kernel_rfl) (by kernel_rfl) (by kernel_rfl) (by rfl) hHeld (fun _ _ _ h => h) ?_ ?_
  rotate_left
  ·intro w' hSw; (try dsimp only at hSw); go_simp <;> with_reducible rfl
  simp only [Act.put, List.setIfInBounds_toArray, List.set_cons_zero, List.set_cons_succ]
  refine fork1 9 (by kernel_rfl) ?_
  refine skipRunF 9 none (w' := (w3.setCell ⟨w.heap.size + 2, 0, none⟩ (.slice A1 fl.length c1)).setCell ⟨w.heap.size + 2, 1, none⟩ (.slice B1 n1 d1)) rfl rfl (by rfl) ?_ ?_
  ·go_simp <;> with_reducible rfl
  refine keepAnd ?_ (fun hNew => ?_)
  ·intro _; exact ⟨(hC4.block _ (by omega) (by omega)).trans hY3, (hC4.block _ (by omega) (by omega)).trans hO3⟩
  have hNew := hNew (by decide)
  clear hHeld
  have hHeld := hNew
  clear hNew
  simp only [Act.put]
  refine fork1 10 (by kernel_rfl) ?_
  refine runF 10 (some 7) (v := ?_) (w' := ?_) rfl rfl (by rfl) ?_ ?_
  rotate_left 2
  ·go_simp <;> first | with_reducible rfl | (constructor <;> with_reducible rfl)
  refine ⟨fun h => absurd rfl h, ?_⟩
  clear hHeld
  simp only [Act.put, List.setIfInBounds_toArray, List.set_cons_zero, List.set_cons_succ]
  refine doneT (by kernel_rfl) ?_ _
  refine NoPanic.normal ?_
  go_wp2_with fail
  refine bodyPost_ret (v := .tuple #[.agg #[.slice A1 fl.length c1, .slice B1 n1 d1], .bool true]) (by simp [results, Try.results8, go_sem, q4, q5]) rfl ?_
  refine ⟨_, _, P3, rfl, ⟨fm, os, fl, hD4.mono (by (try simp only [List.length_nil]); omega), hl4, ho4, hI, ?_, ?_⟩, ((Chg.of_below (hb0.trans (hbW2.mono (by omega))) _).trans hC3 (fun _ _ h => h)).trans hC4 (fun i hi h => by omega)⟩
  ·exact hK
  ·exact hz.mono (by omega)
set_option maxRecDepth 100000 in
set_option maxHeartbeats 4000000 in
theorem do3 [Inhabited Nb] (B Z D : Nat) (P : Option Nat) (lv ov : Value) (q : LOp) (dv : Value) (w : World) (hB : B ≤ w.heap.size) (hb : Both B Z w D P lv ov) (hd : RdB w (· < w.heap.size) dv q.data) (hZ : Z ≤ 1099511627776) (hdl : q.data.length ≤ 1099511627776) (hnl : q.name.length ≤ maxLen) (htl : q.to.length ≤ maxLen) (hkd : q.kind = 3) :
  Calls Try.prog 8 #[.pointer (some ⟨D, 0, none⟩), .agg #[lv, ov], .agg #[.int .i64 q.kind, .string (strB q.name), .string (strB q.to), dv, .int .i64 q.keep, .int .i64 q.torn]] w (DoOut B (Z + q.data.length + 1) D P w) := by
 obtain ⟨kd, nm, to, data, kp, tn⟩ := q
 simp only at *
 obtain ⟨fm, os, fl, hD, hv, ho, hI, hK, hz⟩ := hb
 obtain ⟨A, c, rfl, a1, a2, a3⟩ := hv.open_
 obtain ⟨Ao, co, rfl, b1, b2, b3⟩ := ho.open_
 obtain ⟨X, x, rfl, x1, x2, x3⟩ := Rd.open_ hd
 have HA3 := Lib.hid a3
 have HB3 := Lib.hid b3
 have HX3 := Lib.hid x3
 clear a3 b3 x3
 have hol : os.length ≤ 1099511627776 := by have := hz.len; omega
 have HIV := Lib.hid (hI.view hK)
 obtain ⟨W, hW⟩ : ∃ W, W = ((w.alloc (.cells #[.slice A fl.length c, .slice Ao os.length co] 28)).alloc (.cells #[.int .i64 kd, .string (strB nm), .string (strB to), .slice X data.length x, .int .i64 kp, .int .i64 tn] 35)).alloc (.cells #[.slice none 0 0, .slice none 0 0] 28) := ⟨_, rfl⟩
 have hWs : W.heap.size = w.heap.size + 3 := by rw [hW]; simp
 have hb0 : Below w.heap.size w W := by rw [hW]; exact ((Below.of_alloc _).trans ((Below.of_alloc _).mono (by simp))).trans ((Below.of_alloc _).mono (by simp; omega))
 have hrD : W.heap[w.heap.size]? = some (.cells #[.slice A fl.length c, .slice Ao os.length co] 28 (0, 0)) := by
  rw [hW, Below.heap_alloc _ _ _ (by simp; omega), Below.heap_alloc _ _ _ (by simp)]; exact heap_alloc_new w _
 have hrO : W.heap[w.heap.size + 1]? = some (.cells #[.int .i64 kd, .string (strB nm), .string (strB to), .slice X data.length x, .int .i64 kp, .int .i64 tn] 35 (0, 0)) := by
  rw [hW, Below.heap_alloc _ _ _ (by simp)]
  have := heap_alloc_new (w.alloc (.cells #[.slice A fl.length c, .slice Ao os.length co] 28)) (.cells #[.int .i64 kd, .string (strB nm), .string (strB to), .slice X data.length x, .int .i64 kp, .int .i64 tn] 35)
  simpa using this
 have hrR : W.heap[w.heap.size + 2]? = some (.cells #[.slice none 0 0, .slice none 0 0] 28 (0, 0)) := by
  have := heap_alloc_new ((w.alloc (.cells #[.slice A fl.length c, .slice Ao os.length co] 28)).alloc (.cells #[.int .i64 kd, .string (strB nm), .string (strB to), .slice X data.length x, .int .i64 kp, .int .i64 tn] 35)) (.cells #[.slice none 0 0, .slice none 0 0] 28)
  rw [hW]; simpa using this
 have hBW : B ≤ W.heap.size := by omega
 have hDW := hD.below hB hb0
 have hvW := hv.below hB hb0
 have hoW := ho.below hB hb0
 have hdW := RdB.below hd hb0
 have k0 : W.cell? ⟨w.heap.size, 0, none⟩ = some (.slice A fl.length c) := cell_of_row _ _ 0 _ _ _ hrD
 have k1 : W.cell? ⟨w.heap.size, 1, none⟩ = some (.slice Ao os.length co) := cell_of_row _ _ 1 _ _ _ hrD
 have j0 : W.cell? ⟨w.heap.size + 1, 0, none⟩ = some (.int .i64 kd) := cell_of_row _ _ 0 _ _ _ hrO
 have j1 : W.cell? ⟨w.heap.size + 1, 1, none⟩ = some (.string (strB nm)) := cell_of_row _ _ 1 _ _ _ hrO
 have j2 : W.cell? ⟨w.heap.size + 1, 2, none⟩ = some (.string (strB to)) := cell_of_row _ _ 2 _ _ _ hrO
 have j3 : W.cell? ⟨w.heap.size + 1, 3, none⟩ = some (.slice X data.length x) := cell_of_row _ _ 3 _ _ _ hrO
 have j4 : W.cell? ⟨w.heap.size + 1, 4, none⟩ = some (.int .i64 kp) := cell_of_row _ _ 4 _ _ _ hrO
 have j5 : W.cell? ⟨w.heap.size + 1, 5, none⟩ = some (.int .i64 tn) := cell_of_row _ _ 5 _ _ _ hrO
 have HW := Lib.hid hW
 clear hW hD hv ho hd
 subst hkd
 go_enter Try.func8, Try.ntmps8
 go_wp2_with fail
 rw [← HW.out]
 (with_reducible refine (dsync_any B Z D fm os W hBW hDW.rd hZ).mono ?_)
 rintro e w1 ⟨u1, rfl, hD1, hC1⟩
 have hs1 := hC1.size
 have hC1' : Chg (fun b => b = D ∨ some b = P) W w1 := hC1.mono (fun _ h => .inl h)
 have hl1 := hvW.chg hBW hC1' hDW.br hDW.fr34
 have ho1 := hoW.chg hBW hC1' hDW.br hDW.dor
 have hrD1 := (hC1'.block w.heap.size (by omega) (hDW.not_log hrD (by decide) (by decide))).trans hrD
 have hrO1 := (hC1'.block (w.heap.size + 1) (by omega) (hDW.not_log hrO (by decide) (by decide))).trans hrO
 have hrR1 := (hC1'.block (w.heap.size + 2) (by omega) (hDW.not_log hrR (by decide) (by decide))).trans hrR
 have p0 : w1.cell? ⟨w.heap.size, 0, none⟩ = some (.slice A fl.length c) := cell_of_row _ _ 0 _ _ _ hrD1
 have p1 : w1.cell? ⟨w.heap.size, 1, none⟩ = some (.slice Ao os.length co) := cell_of_row _ _ 1 _ _ _ hrD1
 have i4 : w1.cell? ⟨w.heap.size + 1, 4, none⟩ = some (.int .i64 kp) := cell_of_row _ _ 4 _ _ _ hrO1
 have i5 : w1.cell? ⟨w.heap.size + 1, 5, none⟩ = some (.int .i64 tn) := cell_of_row _ _ 5 _ _ _ hrO1
 have hB1 : B ≤ w1.heap.size := by omega
 go_wp2_with fail
 (with_reducible refine (rsync_any B Z _ _ fl os w1 hB1 hl1 ho1 hz hZ).mono ?_)
 rintro e w2 ⟨l2, o2, rfl, hl2, ho2, hb2⟩
 obtain ⟨A2, c2, rfl, s1, s2, s3⟩ := hl2.open_
 obtain ⟨B2, d2, rfl, t1, t2, t3⟩ := ho2.open_
 have HS3 := Lib.hid s3
 have HT3 := Lib.hid t3
 clear s3 t3
 generalize hn2 : (viewL fl os).length = n2 at *
 have HN2 := Lib.hid hn2
 clear hn2
 have hs2 := hb2.size
 have hR2 := (hb2.block (w.heap.size + 2) (by omega)).trans hrR1
 have hD2 := hD1.below hB1 hb2
 rw [List.length_nil] at *
 obtain ⟨q0, q1, q2, q3, q6, q4, q5, hC4⟩ := two_store w2 (w.heap.size + 2) (.slice none 0 0) (.slice none 0 0) (.slice A2 n2 c2) (.slice B2 0 d2) _ hR2
 have hl4 := FlsRd.box hl2 (by omega) (by omega) hR2 hC4
 have ho4 := DosRd.box ho2 (by omega) (by omega) hR2 hC4
 have hD4 := hD2.keep (by omega) hC4 (fun b hb => by subst hb; exact ⟨by omega, _, _, _, hR2, by decide, by decide, by decide⟩)
 clear q6
 go_wp2_with fail
 refine bodyPost_ret (v := .tuple #[.agg #[.slice A2 n2 c2, .slice B2 0 d2], .bool true]) (by simp [results, Try.results8, go_sem, q4, q5]) rfl ?_
 exact ⟨_, _, none, rfl, ⟨_, [], _, hD4.mono (by omega), hl4, ho4, HIV.out, trivial, (hz.view).mono (by omega)⟩, (((Chg.of_below hb0 _).trans hC1' (fun _ _ h => h)).then_below hb2).trans hC4 (fun i hi h => by omega)⟩
set_option maxRecDepth 100000 in
set_option maxHeartbeats 4000000 in
theorem do4 [Inhabited Nb] (B Z D : Nat) (P : Option Nat) (lv ov : Value) (q : LOp) (dv : Value) (w : World) (hB : B ≤ w.heap.size) (hb : Both B Z w D P lv ov) (hd : RdB w (· < w.heap.size) dv q.data) (hZ : Z ≤ 1099511627776) (hdl : q.data.length ≤ 1099511627776) (hnl : q.name.length ≤ maxLen) (htl : q.to.length ≤ maxLen) (hkd : q.kind < 0 ∨ 3 < q.kind) :
  Calls Try.prog 8 #[.pointer (some ⟨D, 0, none⟩), .agg #[lv, ov], .agg #[.int .i64 q.kind, .string (strB q.name), .string (strB q.to), dv, .int .i64 q.keep, .int .i64 q.torn]] w (DoOut B (Z + q.data.length + 1) D P w) := by
 obtain ⟨kd, nm, to, data, kp, tn⟩ := q
 simp only at *
 obtain ⟨fm, os, fl, hD, hv, ho, hI, hK, hz⟩ := hb
 obtain ⟨A, c, rfl, a1, a2, a3⟩ := hv.open_
 obtain ⟨Ao, co, rfl, b1, b2, b3⟩ := ho.open_
 obtain ⟨X, x, rfl, x1, x2, x3⟩ := Rd.open_ hd
 have HA3 := Lib.hid a3
 have HB3 := Lib.hid b3
 have HX3 := Lib.hid x3
 clear a3 b3 x3
 have hol : os.length ≤ 1099511627776 := by have := hz.len; omega
 have HIV := Lib.hid (hI.view hK)
 obtain ⟨W, hW⟩ : ∃ W, W = ((w.alloc (.cells #[.slice A fl.length c, .slice Ao os.length co] 28)).alloc (.cells #[.int .i64 kd, .string (strB nm), .string (strB to), .slice X data.length x, .int .i64 kp, .int .i64 tn] 35)).alloc (.cells #[.slice none 0 0, .slice none 0 0] 28) := ⟨_, rfl⟩
 have hWs : W.heap.size = w.heap.size + 3 := by rw [hW]; simp
 have hb0 : Below w.heap.size w W := by rw [hW]; exact ((Below.of_alloc _).trans ((Below.of_alloc _).mono (by simp))).trans ((Below.of_alloc _).mono (by simp; omega))
 have hrD : W.heap[w.heap.size]? = some (.cells #[.slice A fl.length c, .slice Ao os.length co] 28 (0, 0)) := by
  rw [hW, Below.heap_alloc _ _ _ (by simp; omega), Below.heap_alloc _ _ _ (by simp)]; exact heap_alloc_new w _
 have hrO : W.heap[w.heap.size + 1]? = some (.cells #[.int .i64 kd, .string (strB nm), .string (strB to), .slice X data.length x, .int .i64 kp, .int .i64 tn] 35 (0, 0)) := by
  rw [hW, Below.heap_alloc _ _ _ (by simp)]
  have := heap_alloc_new (w.alloc (.cells #[.slice A fl.length c, .slice Ao os.length co] 28)) (.cells #[.int .i64 kd, .string (strB nm), .string (strB to), .slice X data.length x, .int .i64 kp, .int .i64 tn] 35)
  simpa using this
 have hrR : W.heap[w.heap.size + 2]? = some (.cells #[.slice none 0 0, .slice none 0 0] 28 (0, 0)) := by
  have := heap_alloc_new ((w.alloc (.cells #[.slice A fl.length c, .slice Ao os.length co] 28)).alloc (.cells #[.int .i64 kd, .string (strB nm), .string (strB to), .slice X data.length x, .int .i64 kp, .int .i64 tn] 35)) (.cells #[.slice none 0 0, .slice none 0 0] 28)
  rw [hW]; simpa using this
 have hBW : B ≤ W.heap.size := by omega
 have hDW := hD.below hB hb0
 have hvW := hv.below hB hb0
 have hoW := ho.below hB hb0
 have hdW := RdB.below hd hb0
 have k0 : W.cell? ⟨w.heap.size, 0, none⟩ = some (.slice A fl.length c) := cell_of_row _ _ 0 _ _ _ hrD
 have k1 : W.cell? ⟨w.heap.size, 1, none⟩ = some (.slice Ao os.length co) := cell_of_row _ _ 1 _ _ _ hrD
 have j0 : W.cell? ⟨w.heap.size + 1, 0, none⟩ = some (.int .i64 kd) := cell_of_row _ _ 0 _ _ _ hrO
 have j1 : W.cell? ⟨w.heap.size + 1, 1, none⟩ = some (.string (strB nm)) := cell_of_row _ _ 1 _ _ _ hrO
 have j2 : W.cell? ⟨w.heap.size + 1, 2, none⟩ = some (.string (strB to)) := cell_of_row _ _ 2 _ _ _ hrO
 have j3 : W.cell? ⟨w.heap.size + 1, 3, none⟩ = some (.slice X data.length x) := cell_of_row _ _ 3 _ _ _ hrO
 have j4 : W.cell? ⟨w.heap.size + 1, 4, none⟩ = some (.int .i64 kp) := cell_of_row _ _ 4 _ _ _ hrO
 have j5 : W.cell? ⟨w.heap.size + 1, 5, none⟩ = some (.int .i64 tn) := cell_of_row _ _ 5 _ _ _ hrO
 have HW := Lib.hid hW
 clear hW hD hv ho hd
 have g0 : (kd == 0) = false := by simp; omega
 have g1 : (kd == 1) = false := by simp; omega
 have g2 : (kd == 2) = false := by simp; omega
 have g3 : (kd == 3) = false := by simp; omega
 clear hkd
 go_enter Try.func8, Try.ntmps8
 go_wp2_with fail
 rw [← HW.out]
 (with_reducible refine (dcrash_any B Z D P fm os kp tn W hBW hDW hZ).mono ?_)
 rintro e w1 ⟨u1, rfl, hD1, hC1⟩
 have hs1 := hC1.size
 have hC1' : Chg (fun b => b = D ∨ some b = P) W w1 := hC1.mono (fun _ h => .inl h)
 have hl1 := hvW.chg hBW hC1' hDW.br hDW.fr34
 have ho1 := hoW.chg hBW hC1' hDW.br hDW.dor
 have hrD1 := (hC1'.block w.heap.size (by omega) (hDW.not_log hrD (by decide) (by decide))).trans hrD
 have hrO1 := (hC1'.block (w.heap.size + 1) (by omega) (hDW.not_log hrO (by decide) (by decide))).trans hrO
 have hrR1 := (hC1'.block (w.heap.size + 2) (by omega) (hDW.not_log hrR (by decide) (by decide))).trans hrR
 have p0 : w1.cell? ⟨w.heap.size, 0, none⟩ = some (.slice A fl.length c) := cell_of_row _ _ 0 _ _ _ hrD1
 have p1 : w1.cell? ⟨w.heap.size, 1, none⟩ = some (.slice Ao os.length co) := cell_of_row _ _ 1 _ _ _ hrD1
 have i4 : w1.cell? ⟨w.heap.size + 1, 4, none⟩ = some (.int .i64 kp) := cell_of_row _ _ 4 _ _ _ hrO1
 have i5 : w1.cell? ⟨w.heap.size + 1, 5, none⟩ = some (.int .i64 tn) := cell_of_row _ _ 5 _ _ _ hrO1
 have hB1 : B ≤ w1.heap.size := by omega
 go_wp2_with fail
 (with_reducible refine (rcrash_any B Z _ _ fl os kp tn w1 hB1 hl1 ho1 hz hZ).mono ?_)
 rintro e w2 ⟨l2, o2, rfl, hl2, ho2, hb2⟩
 obtain ⟨A2, c2, rfl, s1, s2, s3⟩ := hl2.open_
 obtain ⟨B2, d2, rfl, t1, t2, t3⟩ := ho2.open_
 have HS3 := Lib.hid s3
 have HT3 := Lib.hid t3
 clear s3 t3
 generalize hn2 : (viewL fl (crashOps os kp tn)).length = n2 at *
 have HN2 := Lib.hid hn2
 clear hn2
 have hs2 := hb2.size
 have hR2 := (hb2.block (w.heap.size + 2) (by omega)).trans hrR1
 have hD2 := hD1.below hB1 hb2
 rw [List.length_nil] at *
 obtain ⟨q0, q1, q2, q3, q6, q4, q5, hC4⟩ := two_store w2 (w.heap.size + 2) (.slice none 0 0) (.slice none 0 0) (.slice A2 n2 c2) (.slice B2 0 d2) _ hR2
 have hl4 := FlsRd.box hl2 (by omega) (by omega) hR2 hC4
 have ho4 := DosRd.box ho2 (by omega) (by omega) hR2 hC4
 have hD4 := hD2.keep (by omega) hC4 (fun b hb => by subst hb; exact ⟨by omega, _, _, _, hR2, by decide, by decide, by decide⟩)
 clear q6
 go_wp2_with fail
 refine bodyPost_ret (v := .tuple #[.agg #[.slice A2 n2 c2, .slice B2 0 d2], .bool true]) (by simp [results, Try.results8, go_sem, q4, q5]) rfl ?_
 exact ⟨_, _, none, rfl, ⟨_, [], _, hD4.mono (by omega), hl4, ho4, hI.view (hK.crash kp tn), trivial, ((hz.crash kp tn).view).mono (by omega)⟩, (((Chg.of_below hb0 _).trans hC1' (fun _ _ h => h)).then_below hb2).trans hC4 (fun i hi h => by omega)⟩
theorem do_any [Inhabited Nb] (B Z D : Nat) (P : Option Nat) (lv ov : Value) (q : LOp) (dv : Value) (w : World) (hB : B ≤ w.heap.size) (hb : Both B Z w D P lv ov) (hnb : NB < w.heap.size) (hd : RdB w (· < w.heap.size) dv q.data) (hZ : Z ≤ 1099511627776) (hdl : q.data.length ≤ 1099511627776) (hnl : q.name.length ≤ maxLen) (htl : q.to.length ≤ maxLen) :
  Calls Try.prog 8 #[.pointer (some ⟨D, 0, none⟩), .agg #[lv, ov], .agg #[.int .i64 q.kind, .string (strB q.name), .string (strB q.to), dv, .int .i64 q.keep, .int .i64 q.torn]] w (DoOut B (Z + q.data.length + 1) D P w) := by
 by_cases h4 : q.kind < 0 ∨ 3 < q.kind
 ·exact do4 B Z D P lv ov q dv w hB hb hd hZ hdl hnl htl h4
 have h : q.kind = 0 ∨ q.kind = 1 ∨ q.kind = 2 ∨ q.kind = 3 := by omega
 rcases h with h | h | h | h
 ·exact do0 B Z D P lv ov q dv w hB hb hnb hd hZ hdl hnl htl h
 ·exact do1 B Z D P lv ov q dv w hB hb hd hZ hdl hnl htl h
 ·exact do2 B Z D P lv ov q dv w hB hb hd hZ hdl hnl htl h
 ·exact do3 B Z D P lv ov q dv w hB hb hd hZ hdl hnl htl h
end Go.Proofs.Ythfbfmkdplifeaa
