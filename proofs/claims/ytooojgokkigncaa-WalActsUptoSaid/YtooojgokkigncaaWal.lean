/-
  Logs: the parts.
  What is read from frames that were written. Plain.
  Logs: repair and Open.
  Logs: Open.
  Logs: the chapter's examples.
-/
import Derived.Test.YtooojgokkigncaaDisk
import Derived.Test.YtooojgokkigncaaFrame
import Derived.Lib.SlBytesConst
namespace Go.Proofs.Ytooojgokkigncaa
section
open Go.RowKit Go.Lib Go.IntWalk

/-- an open log -/
def LogIs (w : World) (L : Nat) (rec by_ : Int) (D : Nat) (nm : List UInt8) : Prop :=
  w.heap[L]? = some (.cells #[.int .i64 rec, .int .i64 by_, .pointer (some ⟨D, 0, none⟩), .string (strB nm)] 87 (0, 0))
section
variable {w w' : World} {S : Nat → Prop} {L D : Nat} {rec by_ : Int} {nm : List UInt8}
theorem LogIs.lt (h : LogIs w L rec by_ D nm) : L < w.heap.size := (Array.getElem?_eq_some_iff.1 h).1
theorem LogIs.nk (h : LogIs w L rec by_ D nm) : NK w L := ⟨_, _, _, h, by decide, by decide, by decide⟩
theorem LogIs.chg (h : LogIs w L rec by_ D nm) (hc : Chg S w w') (hs : ¬ S L) : LogIs w' L rec by_ D nm := (hc.block L h.lt hs).trans h
theorem LogIs.below (h : LogIs w L rec by_ D nm) (hb : Below w.heap.size w w') : LogIs w' L rec by_ D nm := (hb.block L h.lt).trans h
end
/-- blocks of a disk are no log -/
theorem DiskAt.not_log {B Z : Nat} {w : World} {D : Nat} {P : Option Nat} {fm : FM} {os : List DOp} (h : DiskAt B Z w D P fm os) {b : Nat} {cs : Array Value} {t : TypeId} {fr : Nat × Nat} (hb : w.heap[b]? = some (.cells cs t fr)) (h1 : ¬ t = 80) (h2 : ¬ t = 92) : ¬ (b = D ∨ some b = P) := by
  obtain ⟨M, n, g, pv, hD, hBD, hBM, hM, hn, hG, ⟨ps, hps, hown, hO⟩, hZs, rfl⟩ := h
  rintro (rfl | e)
  · rw [hb] at hD; simp only [Option.some.injEq, Obj.cells.injEq] at hD; exact h1 hD.2.1
  · obtain ⟨_, cur, hc⟩ := own_block hown e
    rw [hb] at hc; simp only [Option.some.injEq, Obj.cells.injEq] at hc; exact h2 hc.2.1
theorem DiskAt.ge {B Z : Nat} {w : World} {D : Nat} {P : Option Nat} {fm : FM} {os : List DOp} (h : DiskAt B Z w D P fm os) {b : Nat} (hb : b = D ∨ some b = P) : B ≤ b := by
  obtain ⟨M, n, g, pv, hD, hBD, hBM, hM, hn, hG, ⟨ps, hps, hown, hO⟩, hZs, rfl⟩ := h
  rcases hb with rfl | e
  · exact hBD
  · exact (own_block hown e).1
theorem DiskAt.br {B Z : Nat} {w : World} {D : Nat} {P : Option Nat} {fm : FM} {os : List DOp} (h : DiskAt B Z w D P fm os) : ∀ b, BR B w b → ¬ (b = D ∨ some b = P) := by
  rintro b (hb | ⟨cs, fr, hb⟩) hS
  · have := h.ge hS; omega
  · exact h.not_log hb (by decide) (by decide) hS
theorem DiskAt.lr {B Z : Nat} {w : World} {D : Nat} {P : Option Nat} {fm : FM} {os : List DOp} (h : DiskAt B Z w D P fm os) : ∀ b, LR B w b → ¬ (b = D ∨ some b = P) := by
  rintro b (hb | ⟨cs, hb⟩) hS
  · have := h.ge hS; omega
  · exact h.not_log hb (by decide) (by decide) hS
theorem chg_push {D : Nat} {P P1 : Option Nat} {w0 w1 w2 : World} (hP1 : P1 = P ∨ ∃ p, P1 = some p ∧ w0.heap.size ≤ p) (hc1 : Chg (fun b => b = D ∨ some b = P) w0 w1) (hc2 : Chg (fun b => b = D ∨ some b = P1) w1 w2) : Chg (fun b => b = D ∨ some b = P) w0 w2 := by
  refine hc1.trans hc2 ?_
  rintro i hi (rfl | e)
  · exact .inl rfl
  · rcases hP1 with rfl | ⟨p, rfl, hp⟩
    · exact .inr e
    · injection e with e; omega
theorem push_trans {P P1 P2 : Option Nat} {w0 w1 : World} (hs : w0.heap.size ≤ w1.heap.size) (h1 : P1 = P ∨ ∃ p, P1 = some p ∧ w0.heap.size ≤ p) (h2 : P2 = P1 ∨ ∃ p, P2 = some p ∧ w1.heap.size ≤ p) : P2 = P ∨ ∃ p, P2 = some p ∧ w0.heap.size ≤ p := by
  rcases h2 with rfl | ⟨p, rfl, hp⟩
  · exact h1
  · exact .inr ⟨p, rfl, by omega⟩

set_option maxRecDepth 100000 in
set_option maxHeartbeats 1000000 in
theorem count_any (L D : Nat) (rec by_ n : Int) (nm : List UInt8) (w : World) (hL : LogIs w L rec by_ D nm) (h1 : 0 ≤ rec) (h2 : rec ≤ 1099511627776) (h3 : 0 ≤ by_) (h4 : by_ ≤ 1099511627776) :
    Calls Try.prog 50 #[.pointer (some ⟨L, 0, none⟩), .int .i64 n] w fun e w' => ∃ u, e = .returned u ∧ LogIs w' L (rec + 1) (by_ + lenF n) D nm ∧ Chg (· = L) w w' := by
  have hLl := hL.lt
  have g0 : w.cell? ⟨L, 0, none⟩ = some (.int .i64 rec) := cell_of_row w L 0 _ _ _ hL
  have g1 : w.frozen? ⟨L, 0, none⟩ = false := frozen_of_row w L 0 _ _ hL
  have hL1 : (w.setCell ⟨L, 0, none⟩ (.int .i64 (rec + 1))).heap[L]? = some (.cells #[.int .i64 (rec + 1), .int .i64 by_, .pointer (some ⟨D, 0, none⟩), .string (strB nm)] 87 (0, 0)) := by
    have := heap_setCell_same w L 0 _ _ (.int .i64 (rec + 1)) hL
    simpa using this
  have k1 : (w.setCell ⟨L, 0, none⟩ (.int .i64 (rec + 1))).cell? ⟨L, 1, none⟩ = some (.int .i64 by_) := cell_of_row _ L 1 _ _ _ hL1
  have k2 : (w.setCell ⟨L, 0, none⟩ (.int .i64 (rec + 1))).frozen? ⟨L, 1, none⟩ = false := frozen_of_row _ L 1 _ _ hL1
  have hlf : 0 ≤ lenF n ∧ lenF n ≤ 1048584 := by unfold lenF; split <;> omega
  have hw1 : IntKind.i64.wrap (rec + 1) = rec + 1 := IntWalk.i64_in _ (by omega)
  have hw2 : IntKind.i64.wrap (by_ + lenF n) = by_ + lenF n := IntWalk.i64_in _ (by omega)
  have HL1 := Lib.hid hL1
  clear hL1
  go_enter Try.func50, Try.ntmps50
  go_wp2_with fail
  refine wp_region_noPanic ?_
  refine beginT (S := (fun w' => w'.cell? ⟨L, 1, none⟩ = some (.int .i64 by_))) 9 (by kernel_rfl) ?_ (fun hHeld => ?_)
  · exact k1
  refine takeT 0 (some 11) (v := ?_) rfl rfl (by kernel_rfl) (by kernel_rfl) (by kernel_rfl) (by kernel_rfl) (by rfl) hHeld (fun _ _ _ h => h) ?_ ?_
  rotate_left
  · intro w' hSw; (try dsimp only at hSw); go_simp <;> with_reducible rfl
  simp only [Act.put, List.setIfInBounds_toArray, List.set_cons_zero, List.set_cons_succ]
  refine takeT 1 (some 12) (v := ?_) rfl rfl (by kernel_rfl) (by kernel_rfl) (by kernel_rfl) (by kernel_rfl) (by rfl) hHeld (fun _ _ _ h => h) ?_ ?_
  rotate_left
  · intro w' hSw; (try dsimp only at hSw); go_simp <;> with_reducible rfl
  simp only [Act.put, List.setIfInBounds_toArray, List.set_cons_zero, List.set_cons_succ]
  refine takeT 2 (some 13) (v := ?_) rfl rfl (by kernel_rfl) (by kernel_rfl) (by kernel_rfl) (by kernel_rfl) (by rfl) hHeld (fun _ _ _ h => h) ?_ ?_
  rotate_left
  · intro w' hSw; (try dsimp only at hSw); go_simp <;> with_reducible rfl
  simp only [Act.put, List.setIfInBounds_toArray, List.set_cons_zero, List.set_cons_succ]
  refine takeT 3 (some 14) (v := ?_) rfl rfl (by kernel_rfl) (by kernel_rfl) (by kernel_rfl) (by kernel_rfl) (by rfl) hHeld (fun _ _ _ h => h) ?_ ?_
  rotate_left
  · intro w' hSw; (try dsimp only at hSw); go_simp <;> with_reducible rfl
  simp only [Act.put, List.setIfInBounds_toArray, List.set_cons_zero, List.set_cons_succ]
  refine takeT 4 (some 15) (v := ?_) rfl rfl (by kernel_rfl) (by kernel_rfl) (by kernel_rfl) (by kernel_rfl) (by rfl) hHeld (fun _ _ _ h => h) ?_ ?_
  rotate_left
  · intro w' hSw; (try dsimp only at hSw); go_simp <;> with_reducible rfl
  simp only [Act.put, List.setIfInBounds_toArray, List.set_cons_zero, List.set_cons_succ]
  refine callT 5 (some 16) (f := ?_) (args := ?_) rfl rfl (by kernel_rfl) (by rfl) ?_ ?_
  rotate_left 2
  · go_simp <;> first | (constructor <;> with_reducible rfl) | with_reducible rfl
  (with_reducible refine (len_any n _).mono ?_)
  rintro e w2 ⟨rfl, rfl⟩
  refine ⟨_, rfl, keepAnd ?_ (fun hNew => ?_)⟩
  · intro _; exact k1
  have hNew := hNew (by decide)
  clear hHeld
  have hHeld := hNew
  clear hNew
  simp only [Act.put, List.setIfInBounds_toArray, List.set_cons_zero, List.set_cons_succ]
  refine takeT 6 (some 17) (v := ?_) rfl rfl (by kernel_rfl) (by kernel_rfl) (by kernel_rfl) (by kernel_rfl) (by rfl) hHeld (fun _ _ _ h => h) ?_ ?_
  rotate_left
  · intro w' hSw; (try dsimp only at hSw); go_simp <;> with_reducible rfl
  simp only [Act.put, List.setIfInBounds_toArray, List.set_cons_zero, List.set_cons_succ]
  refine runT 7 (some 18) (v := ?_) (w' := _) rfl rfl (by kernel_rfl) (by rfl) ?_ (fun _ => hHeld) ?_
  rotate_left
  · go_simp <;> with_reducible rfl
  simp only [Act.put, List.setIfInBounds_toArray, List.set_cons_zero, List.set_cons_succ]
  refine takeT 8 (some 19) (v := ?_) rfl rfl (by kernel_rfl) (by kernel_rfl) (by kernel_rfl) (by kernel_rfl) (by rfl) hHeld (fun _ _ _ h => h) ?_ ?_
  rotate_left
  · intro w' hSw; (try dsimp only at hSw); go_simp <;> with_reducible rfl
  simp only [Act.put, List.setIfInBounds_toArray, List.set_cons_zero, List.set_cons_succ]
  refine skipRunT 9 none (w' := (w.setCell ⟨L, 0, none⟩ (.int .i64 (rec + 1))).drew.setCell ⟨L, 1, none⟩ (.int .i64 (by_ + lenF n))) rfl rfl (by kernel_rfl) (by rfl) ?_ (fun h => absurd rfl h) ?_
  · go_simp <;> with_reducible rfl
  clear hHeld
  simp only [Act.put]
  refine doneT (by kernel_rfl) ?_ _
  refine NoPanic.normal ?_
  go_wp2_with fail
  go_end0
  refine ⟨_, rfl, ?_, ?_⟩
  · have := heap_setCell_same (w.setCell ⟨L, 0, none⟩ (.int .i64 (rec + 1))).drew L 1 _ _ (.int .i64 (by_ + lenF n)) HL1.out
    unfold LogIs
    simpa using this
  · exact Chg.setCell (S := (· = L)) (Chg.drew (Chg.setCell (S := (· = L)) (Chg.refl _ w) (.inl rfl) _)) (.inl rfl) _

theorem DatL.elem {B : Nat} {w : World} {A : Option Addr} {c : Nat} {ls : List (List UInt8)} (h : DatL B w (.slice A ls.length c) ls) {k : Nat} {l : List UInt8} (hk : ls[k]? = some l) :
    ∃ b off u, A = some ⟨b, off, none⟩ ∧ w.cell? ⟨b, off + k, none⟩ = some u ∧ DatB B w u l := by
  obtain ⟨vs, hr, hv⟩ := h
  obtain ⟨hlt, _⟩ := List.getElem?_eq_some_iff.1 hk
  have hvl : vs.length = ls.length := by rw [hr.1, Nat.mul_one]
  obtain ⟨b, off, rfl, hF, hc⟩ := Rd.plain hr (by omega) (by omega)
  have hu : vs[k]? = some vs[k] := List.getElem?_eq_getElem (by omega)
  exact ⟨b, off, vs[k], rfl, hc k _ hu, hv k _ l hu hk⟩
theorem DatL.open_ {B : Nat} {w : World} {v : Value} {ls : List (List UInt8)} (h : DatL B w v ls) : ∃ A c, v = .slice A ls.length c ∧ ls.length ≤ c ∧ c ≤ maxLen ∧ (A = none → c = 0) := by
  obtain ⟨vs, hr, hv⟩ := h; exact hr.open_
theorem DatL.below {B : Nat} {w w' : World} {v : Value} {ls : List (List UInt8)} (h : DatL B w v ls) (hB : B ≤ w.heap.size) (hb : Below w.heap.size w w') : DatL B w' v ls :=
  h.chg hB (Chg.of_below hb (fun _ => False)) (fun _ _ h => h) (fun _ _ h => h)

theorem lists_ne {a b : List (List UInt8)} (k : Nat) (hk : k < a.length) (hkb : k < b.length) (h : ¬ a[k] = b[k]) : decide (a = b) = false := by
  rw [decide_eq_false_iff_not]; rintro rfl; exact h rfl
theorem lists_eq {a b : List (List UInt8)} (hl : a.length = b.length) (h : a.take a.length = b.take a.length) : decide (a = b) = true := by
  rw [decide_eq_true_eq]; rwa [List.take_length, hl, List.take_length] at h
theorem take_step {α : Type} {a b : List α} {k : Nat} (h : a.take k = b.take k) (ha : k < a.length) (hb : k < b.length) (e : a[k] = b[k]) : a.take (k + 1) = b.take (k + 1) := by
  rw [List.take_succ_eq_append_getElem ha, List.take_succ_eq_append_getElem hb, h, e]

set_option maxRecDepth 100000 in
set_option maxHeartbeats 2000000 in
theorem lists_any (B : Nat) (va vb : Value) (la lb : List (List UInt8)) (w : World) (hB : B ≤ w.heap.size) (ha : DatL B w va la) (hb : DatL B w vb lb) :
    Calls Try.prog 19 #[va, vb] w fun e w' => e = .returned (.bool (decide (la = lb))) ∧ Below w.heap.size w w' := by
  obtain ⟨Aa, ca, rfl, a1, a2, a3⟩ := ha.open_
  obtain ⟨Ab, cb, rfl, b1, b2, b3⟩ := hb.open_
  unfold maxLen at a2 b2
  generalize hr : decide (la = lb) = r
  have HR := Lib.hid hr
  clear hr a3 b3
  by_cases hl : la.length = lb.length
  · have q1 : ((la.length : Int) != (lb.length : Int)) = false := by simp [hl]
    have HL := Lib.hid hl
    have hll : la.length ≤ lb.length := by omega
    clear hl
    go_enter Try.func19, Try.ntmps19
    go_wp2_with fail
    go_loopw [13] (fun i wr => ∃ k : Nat, k ≤ la.length ∧ i = .int .i64 (k : Int) ∧ la.take k = lb.take k ∧ Below w.heap.size w wr) (fun i _ => la.length - (intOf i).toNat)
    case atStart => exact ⟨0, Nat.zero_le _, rfl, rfl, Below.refl _ _⟩
    case round =>
      obtain ⟨k, hk, rfl, ht, hbw⟩ := hrel
      have HT := Lib.hid ht
      clear ht
      by_cases hlt : k < la.length
      · have hlb : k < lb.length := by omega
        obtain ⟨ba, oa, ua, rfl, ga, da⟩ := DatL.elem (ha.below hB hbw) (List.getElem?_eq_getElem hlt)
        obtain ⟨bb, ob, ub, rfl, gb, db⟩ := DatL.elem (hb.below hB hbw) (List.getElem?_eq_getElem hlb)
        have HNE := Lib.hid (@lists_ne la lb k hlt hlb)
        have HST := Lib.hid (@take_step _ la lb k HT.out hlt hlb)
        have cva := run_bytes_str (DatB.drew da)
        have cvb := run_bytes_str (DatB.drew db)
        obtain ⟨Xa, xa, rfl, _, _, _⟩ := Rd.open_ da
        obtain ⟨Xb, xb, rfl, _, _, _⟩ := Rd.open_ db
        generalize la[k] = xa' at *
        generalize lb[k] = xb' at *
        by_cases he : xa' = xb'
        · subst he
          have hst := HST.out rfl
          have HS2 := Lib.hid hst
          clear hst HST HNE
          have ht2 : ((strB xa').toList == (strB xa').toList) = true := by simp
          go_wp2_with fail
          refine wp_region_noPanic ?_
          refine wp_region_held_drew (S := (fun w' => w' = wr.drew)) (by kernel_rfl) ?_ (fun hHeld => ?_)
          · rfl
          refine heldTake 0 (some 16) (v := ?_) rfl rfl (by kernel_rfl) (by kernel_rfl) (by kernel_rfl) (by rfl) hHeld (fun _ _ _ h => h) ?_ ?_
          rotate_left
          · intro w' hSw; (try dsimp only at hSw); go_simp <;> with_reducible rfl
          simp only [Act.put, List.setIfInBounds_toArray, List.set_cons_zero, List.set_cons_succ]
          refine heldTake 1 (some 17) (v := ?_) rfl rfl (by kernel_rfl) (by kernel_rfl) (by kernel_rfl) (by rfl) hHeld (fun _ _ _ h => h) ?_ ?_
          rotate_left
          · intro w' hSw; (try dsimp only at hSw); go_simp <;> with_reducible rfl
          simp only [Act.put, List.setIfInBounds_toArray, List.set_cons_zero, List.set_cons_succ]
          refine heldTake 2 (some 18) (v := ?_) rfl rfl (by kernel_rfl) (by kernel_rfl) (by kernel_rfl) (by rfl) hHeld (fun _ _ _ h => h) ?_ ?_
          rotate_left
          · intro w' hSw; (try dsimp only at hSw); go_simp <;> with_reducible rfl
          simp only [Act.put, List.setIfInBounds_toArray, List.set_cons_zero, List.set_cons_succ]
          refine heldTake 3 (some 19) (v := ?_) rfl rfl (by kernel_rfl) (by kernel_rfl) (by kernel_rfl) (by rfl) hHeld (fun _ _ _ h => h) ?_ ?_
          rotate_left
          · intro w' hSw; (try dsimp only at hSw); subst hSw; go_simp <;> with_reducible rfl
          simp only [Act.put, List.setIfInBounds_toArray, List.set_cons_zero, List.set_cons_succ]
          refine heldTake 4 (some 20) (v := ?_) rfl rfl (by kernel_rfl) (by kernel_rfl) (by kernel_rfl) (by rfl) hHeld (fun _ _ _ h => h) ?_ ?_
          rotate_left
          · intro w' hSw; (try dsimp only at hSw); subst hSw; go_simp <;> with_reducible rfl
          simp only [Act.put, List.setIfInBounds_toArray, List.set_cons_zero, List.set_cons_succ]
          refine heldTake 5 (some 21) (v := ?_) rfl rfl (by kernel_rfl) (by kernel_rfl) (by kernel_rfl) (by rfl) hHeld (fun _ _ _ h => h) ?_ ?_
          rotate_left
          · intro w' hSw; (try dsimp only at hSw); go_simp <;> with_reducible rfl
          simp only [Act.put, List.setIfInBounds_toArray, List.set_cons_zero, List.set_cons_succ]
          refine heldTake 6 (some 22) (v := ?_) rfl rfl (by kernel_rfl) (by kernel_rfl) (by kernel_rfl) (by rfl) hHeld (fun _ _ _ h => h) ?_ ?_
          rotate_left
          · intro w' hSw; (try dsimp only at hSw); go_simp <;> with_reducible rfl
          simp only [Act.put, List.setIfInBounds_toArray, List.set_cons_zero, List.set_cons_succ]
          refine heldTake 7 (some 23) (v := ?_) rfl rfl (by kernel_rfl) (by kernel_rfl) (by kernel_rfl) (by rfl) hHeld (fun _ _ _ h => h) ?_ ?_
          rotate_left
          · intro w' hSw; (try dsimp only at hSw); go_simp <;> with_reducible rfl
          simp only [Act.put, List.setIfInBounds_toArray, List.set_cons_zero, List.set_cons_succ]
          refine heldTake 8 (some 24) (v := ?_) rfl rfl (by kernel_rfl) (by kernel_rfl) (by kernel_rfl) (by rfl) hHeld (fun _ _ _ h => h) ?_ ?_
          rotate_left
          · intro w' hSw; (try dsimp only at hSw); subst hSw; go_simp <;> with_reducible rfl
          simp only [Act.put, List.setIfInBounds_toArray, List.set_cons_zero, List.set_cons_succ]
          refine heldTake 9 (some 25) (v := ?_) rfl rfl (by kernel_rfl) (by kernel_rfl) (by kernel_rfl) (by rfl) hHeld (fun _ _ _ h => h) ?_ ?_
          rotate_left
          · intro w' hSw; (try dsimp only at hSw); subst hSw; go_simp <;> with_reducible rfl
          simp only [Act.put, List.setIfInBounds_toArray, List.set_cons_zero, List.set_cons_succ]
          refine heldTake 10 (some 26) (v := ?_) rfl rfl (by kernel_rfl) (by kernel_rfl) (by kernel_rfl) (by rfl) hHeld (fun _ _ _ h => h) ?_ ?_
          rotate_left
          · intro w' hSw; (try dsimp only at hSw); go_simp <;> with_reducible rfl
          simp only [Act.put, List.setIfInBounds_toArray, List.set_cons_zero, List.set_cons_succ]
          refine wpAnyH_done (by kernel_rfl) ?_ _
          refine NoPanic.normal ?_
          go_wp2_with fail
          go_roundw
          case rel => exact ⟨k + 1, by omega, by go_num, HS2.out, hbw.drew⟩
          case measure => simp [intOf]; omega
        · have hn2 : ((strB xa').toList == (strB xb').toList) = false := by
            rw [beq_eq_false_iff_ne, ByteArray.toList_eq, ByteArray.toList_eq]; simpa [strB] using he
          have hn3 : (!(strB xa').toList == (strB xb').toList) = true := by rw [hn2]; rfl
          have HF := Lib.hid (HNE.out he)
          clear HNE HST he
          go_wp2_with fail
          refine wp_region_noPanic ?_
          refine wp_region_held_drew (S := (fun w' => w' = wr.drew)) (by kernel_rfl) ?_ (fun hHeld => ?_)
          · rfl
          refine heldTake 0 (some 16) (v := ?_) rfl rfl (by kernel_rfl) (by kernel_rfl) (by kernel_rfl) (by rfl) hHeld (fun _ _ _ h => h) ?_ ?_
          rotate_left
          · intro w' hSw; (try dsimp only at hSw); go_simp <;> with_reducible rfl
          simp only [Act.put, List.setIfInBounds_toArray, List.set_cons_zero, List.set_cons_succ]
          refine heldTake 1 (some 17) (v := ?_) rfl rfl (by kernel_rfl) (by kernel_rfl) (by kernel_rfl) (by rfl) hHeld (fun _ _ _ h => h) ?_ ?_
          rotate_left
          · intro w' hSw; (try dsimp only at hSw); go_simp <;> with_reducible rfl
          simp only [Act.put, List.setIfInBounds_toArray, List.set_cons_zero, List.set_cons_succ]
          refine heldTake 2 (some 18) (v := ?_) rfl rfl (by kernel_rfl) (by kernel_rfl) (by kernel_rfl) (by rfl) hHeld (fun _ _ _ h => h) ?_ ?_
          rotate_left
          · intro w' hSw; (try dsimp only at hSw); go_simp <;> with_reducible rfl
          simp only [Act.put, List.setIfInBounds_toArray, List.set_cons_zero, List.set_cons_succ]
          refine heldTake 3 (some 19) (v := ?_) rfl rfl (by kernel_rfl) (by kernel_rfl) (by kernel_rfl) (by rfl) hHeld (fun _ _ _ h => h) ?_ ?_
          rotate_left
          · intro w' hSw; (try dsimp only at hSw); subst hSw; go_simp <;> with_reducible rfl
          simp only [Act.put, List.setIfInBounds_toArray, List.set_cons_zero, List.set_cons_succ]
          refine heldTake 4 (some 20) (v := ?_) rfl rfl (by kernel_rfl) (by kernel_rfl) (by kernel_rfl) (by rfl) hHeld (fun _ _ _ h => h) ?_ ?_
          rotate_left
          · intro w' hSw; (try dsimp only at hSw); subst hSw; go_simp <;> with_reducible rfl
          simp only [Act.put, List.setIfInBounds_toArray, List.set_cons_zero, List.set_cons_succ]
          refine heldTake 5 (some 21) (v := ?_) rfl rfl (by kernel_rfl) (by kernel_rfl) (by kernel_rfl) (by rfl) hHeld (fun _ _ _ h => h) ?_ ?_
          rotate_left
          · intro w' hSw; (try dsimp only at hSw); go_simp <;> with_reducible rfl
          simp only [Act.put, List.setIfInBounds_toArray, List.set_cons_zero, List.set_cons_succ]
          refine heldTake 6 (some 22) (v := ?_) rfl rfl (by kernel_rfl) (by kernel_rfl) (by kernel_rfl) (by rfl) hHeld (fun _ _ _ h => h) ?_ ?_
          rotate_left
          · intro w' hSw; (try dsimp only at hSw); go_simp <;> with_reducible rfl
          simp only [Act.put, List.setIfInBounds_toArray, List.set_cons_zero, List.set_cons_succ]
          refine heldTake 7 (some 23) (v := ?_) rfl rfl (by kernel_rfl) (by kernel_rfl) (by kernel_rfl) (by rfl) hHeld (fun _ _ _ h => h) ?_ ?_
          rotate_left
          · intro w' hSw; (try dsimp only at hSw); go_simp <;> with_reducible rfl
          simp only [Act.put, List.setIfInBounds_toArray, List.set_cons_zero, List.set_cons_succ]
          refine heldTake 8 (some 24) (v := ?_) rfl rfl (by kernel_rfl) (by kernel_rfl) (by kernel_rfl) (by rfl) hHeld (fun _ _ _ h => h) ?_ ?_
          rotate_left
          · intro w' hSw; (try dsimp only at hSw); subst hSw; go_simp <;> with_reducible rfl
          simp only [Act.put, List.setIfInBounds_toArray, List.set_cons_zero, List.set_cons_succ]
          refine heldTake 9 (some 25) (v := ?_) rfl rfl (by kernel_rfl) (by kernel_rfl) (by kernel_rfl) (by rfl) hHeld (fun _ _ _ h => h) ?_ ?_
          rotate_left
          · intro w' hSw; (try dsimp only at hSw); subst hSw; go_simp <;> with_reducible rfl
          simp only [Act.put, List.setIfInBounds_toArray, List.set_cons_zero, List.set_cons_succ]
          refine heldTake 10 (some 26) (v := ?_) rfl rfl (by kernel_rfl) (by kernel_rfl) (by kernel_rfl) (by rfl) hHeld (fun _ _ _ h => h) ?_ ?_
          rotate_left
          · intro w' hSw; (try dsimp only at hSw); go_simp <;> with_reducible rfl
          simp only [Act.put, List.setIfInBounds_toArray, List.set_cons_zero, List.set_cons_succ]
          refine wpAnyH_done (by kernel_rfl) ?_ _
          refine NoPanic.normal ?_
          go_wp2_with fail
          go_ret
          exact ⟨by rw [← HR.out, HF.out]; rfl, hbw.drew⟩
      · have hke : k = la.length := by omega
        have HK := Lib.hid hke
        clear hke
        go_wp2_with fail
        go_ret
        refine ⟨?_, hbw⟩
        have := HT.out
        rw [HK.out] at this
        rw [← HR.out, lists_eq HL.out this]
        rfl
  · have q1 : ((la.length : Int) != (lb.length : Int)) = true := by simp; omega
    have hne : decide (la = lb) = false := by rw [decide_eq_false_iff_not]; rintro rfl; exact hl rfl
    have HN := Lib.hid hne
    clear hne hl
    go_enter Try.func19, Try.ntmps19
    go_wp2_with fail
    go_ret
    exact ⟨by rw [← HR.out, HN.out]; rfl, Below.refl _ _⟩

/-- what a record appended leaves -/
def WApp (B Z D L : Nat) (P : Option Nat) (fm : FM) (os : List DOp) (nm : List UInt8) (rec by_ : Int) (w0 : World) (e : Ending) (w : World) : Prop :=
  e = .returned (.int .i64 0) ∧ ∃ P', DiskAt B Z w D P' fm os ∧ (P' = P ∨ ∃ p, P' = some p ∧ w0.heap.size ≤ p) ∧ LogIs w L rec by_ D nm ∧ Chg (fun b => b = D ∨ b = L ∨ some b = P) w0 w
theorem frm_len (l : List UInt8) : (frm l).length = l.length + 8 := by simp [frm, be4_length]; omega

set_option maxRecDepth 100000 in
set_option maxHeartbeats 2000000 in
theorem wappend_ok (B Z D L : Nat) (P : Option Nat) (fm : FM) (os : List DOp) (nm : List UInt8) (rec by_ : Int) (v : Value) (body : List UInt8) (w : World) (hB : B ≤ w.heap.size) (hD : DiskAt B Z w D P fm os) (hL : LogIs w L rec by_ D nm) (hBL : B ≤ L) (hw : wordF nm = true)
    (hv : RdB w (· < w.heap.size) v body) (hbl : body.length ≤ 1048576) (hZ : Z ≤ 1099511627776) (h1 : 0 ≤ rec) (h2 : rec ≤ 1099511627776) (h3 : 0 ≤ by_) (h4 : by_ ≤ 1099511627776) :
    Calls Try.prog 16 #[.pointer (some ⟨L, 0, none⟩), v] w (WApp B (Z + body.length + 9) D L P fm (os ++ [⟨0, nm, [], frm body⟩]) nm (rec + 1) (by_ + body.length + 8) w) := by
  have CF := Lib.hid (frAppend_any v body w hv hbl)
  have hfl : (frm body).length ≤ 1099511627776 := by rw [frm_len]; omega
  have HFL := Lib.hid (frm_len body)
  have HLN : Hid (lenF (body.length : Int) = body.length + 8) := Lib.hid (by unfold lenF; rw [if_neg (by omega)])
  have hLl := hL.lt
  obtain ⟨A, c, rfl, c1, c2, c3⟩ := hv.open_
  clear c3
  go_enter Try.func16, Try.ntmps16
  go_wp2_with fail
  (with_reducible refine CF.out.mono ?_)
  rintro e w1 ⟨f, rfl, hOf, hb1⟩
  have hL1 := hL.below hb1
  have k2 : w1.cell? ⟨L, 2, none⟩ = some (.pointer (some ⟨D, 0, none⟩)) := cell_of_row w1 L 2 _ _ _ hL1
  have k3 : w1.cell? ⟨L, 3, none⟩ = some (.string (strB nm)) := cell_of_row w1 L 3 _ _ _ hL1
  have hD1 := hD.below hB hb1
  have hnl : ¬ (L = D ∨ some L = P) := hD1.not_log hL1 (by decide) (by decide)
  have HK2 : Hid (∀ w2 : World, Chg (fun b => b = D ∨ some b = P) w1.drew w2 → w2.cell? ⟨L, 2, none⟩ = some (.pointer (some ⟨D, 0, none⟩)) ∧ w2.cell? ⟨L, 3, none⟩ = some (.string (strB nm))) := by
    refine Lib.hid fun w2 hc => ?_
    have h := LogIs.chg (w := w1.drew) hL1 hc hnl
    exact ⟨cell_of_row w2 L 2 _ _ _ h, cell_of_row w2 L 3 _ _ _ h⟩
  go_wp2_with fail
  refine wp_region_noPanic ?_
  refine wp_region_held_drew (S := (fun w' => w'.cell? ⟨L, 2, none⟩ = some (.pointer (some ⟨D, 0, none⟩)) ∧ w'.cell? ⟨L, 3, none⟩ = some (.string (strB nm)))) (by kernel_rfl) ?_ (fun hHeld => ?_)
  · exact ⟨k2, k3⟩
  refine heldTake 0 (some 17) (v := ?_) rfl rfl (by kernel_rfl) (by kernel_rfl) (by kernel_rfl) (by rfl) hHeld (fun _ _ _ h => h) ?_ ?_
  rotate_left
  · intro w' hSw; (try dsimp only at hSw); go_simp <;> with_reducible rfl
  simp only [Act.put, List.setIfInBounds_toArray, List.set_cons_zero, List.set_cons_succ]
  refine heldTake 1 (some 18) (v := ?_) rfl rfl (by kernel_rfl) (by kernel_rfl) (by kernel_rfl) (by rfl) hHeld (fun _ _ _ h => h) ?_ ?_
  rotate_left
  · intro w' hSw; (try dsimp only at hSw); go_simp <;> with_reducible rfl
  simp only [Act.put, List.setIfInBounds_toArray, List.set_cons_zero, List.set_cons_succ]
  refine heldTake 2 (some 19) (v := ?_) rfl rfl (by kernel_rfl) (by kernel_rfl) (by kernel_rfl) (by rfl) hHeld (fun _ _ _ h => h) ?_ ?_
  rotate_left
  · intro w' hSw; (try dsimp only at hSw); go_simp <;> with_reducible rfl
  simp only [Act.put, List.setIfInBounds_toArray, List.set_cons_zero, List.set_cons_succ]
  refine heldTake 3 (some 20) (v := ?_) rfl rfl (by kernel_rfl) (by kernel_rfl) (by kernel_rfl) (by rfl) hHeld (fun _ _ _ h => h) ?_ ?_
  rotate_left
  · intro w' hSw; (try dsimp only at hSw); obtain ⟨s1, s2⟩ := hSw; go_simp <;> with_reducible rfl
  simp only [Act.put, List.setIfInBounds_toArray, List.set_cons_zero, List.set_cons_succ]
  refine heldTake 4 (some 21) (v := ?_) rfl rfl (by kernel_rfl) (by kernel_rfl) (by kernel_rfl) (by rfl) hHeld (fun _ _ _ h => h) ?_ ?_
  rotate_left
  · intro w' hSw; (try dsimp only at hSw); go_simp <;> with_reducible rfl
  simp only [Act.put, List.setIfInBounds_toArray, List.set_cons_zero, List.set_cons_succ]
  refine heldTake 5 (some 22) (v := ?_) rfl rfl (by kernel_rfl) (by kernel_rfl) (by kernel_rfl) (by rfl) hHeld (fun _ _ _ h => h) ?_ ?_
  rotate_left
  · intro w' hSw; (try dsimp only at hSw); go_simp <;> with_reducible rfl
  simp only [Act.put, List.setIfInBounds_toArray, List.set_cons_zero, List.set_cons_succ]
  refine heldTake 6 (some 23) (v := ?_) rfl rfl (by kernel_rfl) (by kernel_rfl) (by kernel_rfl) (by rfl) hHeld (fun _ _ _ h => h) ?_ ?_
  rotate_left
  · intro w' hSw; (try dsimp only at hSw); go_simp <;> with_reducible rfl
  simp only [Act.put, List.setIfInBounds_toArray, List.set_cons_zero, List.set_cons_succ]
  refine heldTake 7 (some 24) (v := ?_) rfl rfl (by kernel_rfl) (by kernel_rfl) (by kernel_rfl) (by rfl) hHeld (fun _ _ _ h => h) ?_ ?_
  rotate_left
  · intro w' hSw; (try dsimp only at hSw); obtain ⟨s1, s2⟩ := hSw; go_simp <;> with_reducible rfl
  simp only [Act.put, List.setIfInBounds_toArray, List.set_cons_zero, List.set_cons_succ]
  refine heldTake 8 (some 25) (v := ?_) rfl rfl (by kernel_rfl) (by kernel_rfl) (by kernel_rfl) (by rfl) hHeld (fun _ _ _ h => h) ?_ ?_
  rotate_left
  · intro w' hSw; (try dsimp only at hSw); go_simp <;> with_reducible rfl
  simp only [Act.put, List.setIfInBounds_toArray, List.set_cons_zero, List.set_cons_succ]
  refine heldCall 9 (some 26) (f := ?_) (args := ?_) rfl rfl (by kernel_rfl) (by rfl) ?_ ?_
  rotate_left 2
  · go_simp <;> first | (constructor <;> with_reducible rfl) | with_reducible rfl
  (with_reducible refine (dappend_ok B Z D P fm os nm f (frm body) _ ?_ ?_ hw ?_ hfl hZ).mono ?_)
  · have := hb1.size; simp; omega
  · exact (hD.below hB hb1).drew
  · exact Rd.drew hOf.rd
  rintro e w2 ⟨rfl, P2, hD2, hP2, hC2⟩
  refine ⟨_, rfl, keepAnd ?_ (fun hNew => ?_)⟩
  · exact HK2.out w2 hC2
  clear hHeld
  have hHeld := hNew
  clear hNew
  simp only [Act.put, List.setIfInBounds_toArray, List.set_cons_zero, List.set_cons_succ]
  refine wpAnyH_done (by kernel_rfl) ?_ _
  refine NoPanic.normal ?_
  go_wp2_with fail
  have hL2 : LogIs w2 L rec by_ D nm := LogIs.chg (w := w1.drew) hL1 hC2 hnl
  (with_reducible refine (count_any L D rec by_ _ nm _ hL2 h1 h2 h3 h4).mono ?_)
  rintro e w3 ⟨u, rfl, hL3, hC3⟩
  go_wp2_with fail
  go_ret
  have hB2 : B ≤ w2.heap.size := by have := hC2.size; have := hb1.size; simp at *; omega
  rw [HLN.out, ← Int.add_assoc] at hL3
  refine ⟨rfl, P2, ?_, ?_, hL3, ?_⟩
  · have := hD2.keep hB2 hC3 (fun b hb => by subst hb; exact ⟨hBL, hL2.nk⟩)
    rw [HFL.out] at this
    exact this
  · rcases hP2 with h | ⟨p, h, hp⟩
    · exact .inl h
    · exact .inr ⟨p, h, by have := hb1.size; simp at hp; omega⟩
  · refine ((Chg.of_below hb1 _).trans (T := fun b => b = D ∨ some b = P) ⟨hC2.os, hC2.tape, hC2.output, hC2.size, hC2.block⟩ ?_).trans hC3 ?_
    · rintro i _ (h | h)
      · exact .inl h
      · exact .inr (.inr h)
    · rintro i _ h; exact .inr (.inl h)

set_option maxHeartbeats 1000000 in
theorem wappend_long (L : Nat) (v : Value) (body : List UInt8) (F : Nat → Prop) (w : World) (hv : RdB w F v body) (hbl : ¬ body.length ≤ 1048576) :
    Calls Try.prog 16 #[.pointer (some ⟨L, 0, none⟩), v] w fun e w' => e = .returned (.int .i64 5) ∧ w = w' := by
  have CF := Lib.hid (frAppend_long (.slice none 0 0) v body F w hv hbl)
  go_enter Try.func16, Try.ntmps16
  go_wp2_with fail
  (with_reducible refine CF.out.mono ?_)
  rintro e w1 ⟨rfl, rfl⟩
  go_wp2_with fail
  go_ret
  exact ⟨rfl, rfl⟩

set_option maxHeartbeats 1000000 in
theorem wsync_any (B Z D L : Nat) (P : Option Nat) (fm : FM) (os : List DOp) (nm : List UInt8) (rec by_ : Int) (w : World) (hB : B ≤ w.heap.size) (hD : DiskAt B Z w D P fm os) (hL : LogIs w L rec by_ D nm) (hZ : Z ≤ 1099511627776) :
    Calls Try.prog 15 #[.pointer (some ⟨L, 0, none⟩)] w (DSync B Z D (viewF fm os) w) := by
  have CS := Lib.hid (dsync_any B Z D fm os w hB hD.rd hZ)
  have k2 : w.cell? ⟨L, 2, none⟩ = some (.pointer (some ⟨D, 0, none⟩)) := cell_of_row w L 2 _ _ _ hL
  go_enter Try.func15, Try.ntmps15
  go_wp2_with fail
  (with_reducible refine CS.out.mono ?_)
  rintro e w1 ⟨u, rfl, h1, h2⟩
  go_wp2_with fail
  go_end0
  exact ⟨_, rfl, h1, h2⟩

set_option maxHeartbeats 1000000 in
theorem wlen_any (L D : Nat) (nm : List UInt8) (rec by_ : Int) (w : World) (hL : LogIs w L rec by_ D nm) :
    Calls Try.prog 20 #[.pointer (some ⟨L, 0, none⟩)] w fun e w' => e = .returned (.int .i64 rec) ∧ w = w' := by
  have k2 : w.cell? ⟨L, 0, none⟩ = some (.int .i64 rec) := cell_of_row w L 0 _ _ _ hL
  go_enter Try.func20, Try.ntmps20
  go_wp2_with fail
  go_ret
  exact ⟨rfl, rfl⟩

set_option maxHeartbeats 1000000 in
theorem wsize_any (L D : Nat) (nm : List UInt8) (rec by_ : Int) (w : World) (hL : LogIs w L rec by_ D nm) :
    Calls Try.prog 37 #[.pointer (some ⟨L, 0, none⟩)] w fun e w' => e = .returned (.int .i64 by_) ∧ w = w' := by
  have k2 : w.cell? ⟨L, 1, none⟩ = some (.int .i64 by_) := cell_of_row w L 1 _ _ _ hL
  go_enter Try.func37, Try.ntmps37
  go_wp2_with fail
  go_ret
  exact ⟨rfl, rfl⟩

set_option maxHeartbeats 1000000 in
theorem wname_any (L D : Nat) (nm : List UInt8) (rec by_ : Int) (w : World) (hL : LogIs w L rec by_ D nm) :
    Calls Try.prog 38 #[.pointer (some ⟨L, 0, none⟩)] w fun e w' => e = .returned (.string (strB nm)) ∧ w = w' := by
  have k2 : w.cell? ⟨L, 3, none⟩ = some (.string (strB nm)) := cell_of_row w L 3 _ _ _ hL
  go_enter Try.func38, Try.ntmps38
  go_wp2_with fail
  go_ret
  exact ⟨rfl, rfl⟩
end

section
open Go.RowKit Go.Lib

def fsum (rs : List (List UInt8)) : Nat := (rs.map fun r => r.length + 8).sum
def frs (rs : List (List UInt8)) : List UInt8 := rs.flatMap frm
theorem fsum_append (a b : List (List UInt8)) : fsum (a ++ b) = fsum a + fsum b := by simp [fsum]
theorem fsum_cons (r : List UInt8) (rs : List (List UInt8)) : fsum (r :: rs) = r.length + 8 + fsum rs := by simp [fsum]
theorem frm_length (l : List UInt8) : (frm l).length = l.length + 8 := by simp [frm, be4_length]; omega
theorem frs_length (rs : List (List UInt8)) : (frs rs).length = fsum rs := by
  induction rs with
  | nil => rfl
  | cons r rs ih => simp only [frs, List.flatMap_cons, List.length_append, frm_length, fsum_cons] at *; rw [ih]
theorem fsum_ge (rs : List (List UInt8)) : rs.length * 8 ≤ fsum rs := by
  induction rs with
  | nil => simp
  | cons r rs ih => rw [fsum_cons, List.length_cons]; omega

theorem scanN_inv (l : List UInt8) : ∀ (f k : Nat) (acc : List (List UInt8)), k ≤ l.length →
    ∃ more, (scanN l f k acc).1 = acc ++ more ∧ (scanN l f k acc).2 = k + fsum more ∧ (∀ r ∈ more, r.length ≤ 1048576) ∧ (scanN l f k acc).2 ≤ l.length := by
  intro f
  induction f with
  | zero => intro k acc hk; exact ⟨[], by simp [scanN], by simp [scanN, fsum], fun r hr => (by cases hr), hk⟩
  | succ f ih =>
    intro k acc hk
    unfold scanN
    by_cases h : (nextF l (k : Int)).2.2 = 0
    · rw [if_pos h]
      obtain ⟨j, hj, h1, h2⟩ := nextF_ok h
      rw [hj, Int.toNat_natCast]
      obtain ⟨more, e1, e2, e3, e4⟩ := ih j (acc ++ [(nextF l (k : Int)).1]) h2
      have hb : (nextF l (k : Int)).1.length + 8 = j - k ∧ (nextF l (k : Int)).1.length ≤ 1048576 := by
        have h' := h
        unfold nextF at h' hj ⊢
        rw [Int.toNat_natCast] at h' hj ⊢
        split at h'
        · simp at h'
        split at h'
        · simp at h'
        split at h'
        · simp at h'
        split at h'
        · simp at h'
        split at h'
        · simp at h'
        rename_i q1 q2 q3 q4 q5
        rw [if_neg q1, if_neg q2, if_neg q3, if_neg q4, if_neg q5] at hj ⊢
        simp only [List.length_take, List.length_drop] at hj ⊢
        omega
      refine ⟨(nextF l (k : Int)).1 :: more, by rw [e1]; simp, by rw [e2, fsum_cons]; omega, fun r hr => ?_, e4⟩
      rcases List.mem_cons.1 hr with rfl | hr
      · exact hb.2
      · exact e3 r hr
    · rw [if_neg h]
      exact ⟨[], by simp, by simp [fsum], fun r hr => (by cases hr), hk⟩
theorem scanF_inv (l : List UInt8) : (scanF l).2 = fsum (scanF l).1 ∧ (∀ r ∈ (scanF l).1, r.length ≤ 1048576) ∧ (scanF l).2 ≤ l.length := by
  obtain ⟨more, e1, e2, e3, e4⟩ := scanN_inv l (l.length + 1) 0 [] (Nat.zero_le _)
  unfold scanF
  rw [e1, List.nil_append]
  exact ⟨by rw [e2]; omega, e3, e4⟩

theorem getD_mid (a b c : List UInt8) (k : Nat) (h : k < b.length) : (a ++ (b ++ c)).getD (a.length + k) 0 = b.getD k 0 := by
  simp only [List.getD_eq_getElem?_getD]
  rw [List.getElem?_append_right (by omega), show a.length + k - a.length = k by omega, List.getElem?_append_left h]
theorem num4_mid (a c : List UInt8) (x : Nat) (h : x < 4294967296) : num4L (a ++ (be4 x ++ c)) a.length = x := by
  have hx := num4_be4 x h
  unfold num4L at hx ⊢
  have h0 := getD_mid a (be4 x) c 0 (by rw [be4_length]; omega)
  have h1 := getD_mid a (be4 x) c 1 (by rw [be4_length]; omega)
  have h2 := getD_mid a (be4 x) c 2 (by rw [be4_length]; omega)
  have h3 := getD_mid a (be4 x) c 3 (by rw [be4_length]; omega)
  rw [Nat.add_zero] at h0
  rw [h0, h1, h2, h3]
  exact hx
theorem crcSum_lt' (a b : List UInt8) : crcSum a b < 4294967296 := by unfold crcSum; omega
theorem next_frame (a x c : List UInt8) (hx : x.length ≤ 1048576) : nextF (a ++ (frm x ++ c)) (a.length : Int) = (x, (a.length : Int) + 8 + (x.length : Nat), 0) := by
  have hl : (a ++ (frm x ++ c)).length = a.length + (x.length + 8) + c.length := by simp only [List.length_append, frm_length]; omega
  have e : frm x ++ c = be4 x.length ++ (be4 (crcSum (be4 x.length) x) ++ (x ++ c)) := by simp [frm]
  have n1 : num4L (a ++ (frm x ++ c)) a.length = x.length := by rw [e]; exact num4_mid a _ _ (by omega)
  have n2 : num4L (a ++ (frm x ++ c)) (a.length + 4) = crcSum (be4 x.length) x := by
    have := num4_mid (a ++ be4 x.length) (x ++ c) _ (crcSum_lt' (be4 x.length) x)
    rw [List.length_append, be4_length] at this
    rw [e]
    simpa [List.append_assoc] using this
  have d1 : ((a ++ (frm x ++ c)).drop a.length).take 4 = be4 x.length := by
    rw [List.drop_left, e]
    exact List.take_left' (be4_length _)
  have d2 : ((a ++ (frm x ++ c)).drop (a.length + 8)).take x.length = x := by
    have : a ++ (frm x ++ c) = (a ++ be4 x.length ++ be4 (crcSum (be4 x.length) x)) ++ (x ++ c) := by rw [e]; simp
    rw [this, List.drop_left' (by simp [be4_length])]
    exact List.take_left' rfl
  unfold nextF
  rw [Int.toNat_natCast, n1, n2, d1, d2, if_neg (by rw [hl]; omega), if_neg (by rw [hl]; omega), if_neg (by omega), if_neg (by rw [hl]; omega), if_neg (by simp)]
theorem next_end (l : List UInt8) (k : Nat) (hk : k ≤ l.length) (h : l.length < k + 8) : (nextF l (k : Int)).2.2 = 2 := by
  unfold nextF
  rw [Int.toNat_natCast, if_neg (by omega), if_pos h]
theorem scanN_end (l : List UInt8) (f k : Nat) (acc : List (List UInt8)) (hk : k ≤ l.length) (h : l.length < k + 8) : scanN l f k acc = (acc, k) := by
  cases f with
  | zero => rfl
  | succ f => unfold scanN; rw [next_end l k hk h, if_neg (by omega)]
theorem scanN_frames (rs : List (List UInt8)) : ∀ (a tail : List UInt8) (f : Nat) (acc : List (List UInt8)), (∀ r ∈ rs, r.length ≤ 1048576) → rs.length ≤ f → tail.length < 8 →
    scanN (a ++ (frs rs ++ tail)) f a.length acc = (acc ++ rs, a.length + fsum rs) := by
  induction rs with
  | nil =>
    intro a tail f acc _ _ ht
    rw [scanN_end _ f _ _ (by simp) (by simp [frs]; omega)]
    simp [fsum]
  | cons r rs ih =>
    intro a tail f acc hr hf ht
    obtain ⟨f', rfl⟩ : ∃ f', f = f' + 1 := ⟨f - 1, by simp at hf; omega⟩
    have e : frs (r :: rs) ++ tail = frm r ++ (frs rs ++ tail) := by simp [frs]
    unfold scanN
    rw [e, next_frame a r _ (hr r (List.mem_cons_self ..)), if_pos rfl]
    have ht' : ((a.length : Int) + 8 + (r.length : Nat)).toNat = (a ++ frm r).length := by rw [List.length_append, frm_length]; omega
    show scanN (a ++ (frm r ++ (frs rs ++ tail))) f' ((a.length : Int) + 8 + (r.length : Nat)).toNat (acc ++ [r]) = _
    rw [ht', ← List.append_assoc, ih (a ++ frm r) tail f' (acc ++ [r]) (fun x hx => hr x (List.mem_cons_of_mem _ hx)) (by simp at hf; omega) ht]
    simp only [List.append_assoc, List.length_append, frm_length, fsum_cons, List.singleton_append, Prod.mk.injEq, true_and]
    omega
theorem scanF_frames (rs : List (List UInt8)) (tail : List UInt8) (hr : ∀ r ∈ rs, r.length ≤ 1048576) (ht : tail.length < 8) : scanF (frs rs ++ tail) = (rs, fsum rs) := by
  have h := scanN_frames rs [] tail ((frs rs ++ tail).length + 1) [] hr (by rw [List.length_append, frs_length]; have := fsum_ge rs; omega) ht
  simpa [scanF] using h
end

section
open Go.RowKit Go.Lib Go.IntWalk

def tornN : List UInt8 := [84, 79, 82, 78]
theorem tornV : Value.string ⟨#[84, 79, 82, 78]⟩ = .string (strB tornN) := rfl
theorem torn_word : wordF tornN = true := by decide
theorem torn_len : tornN.length ≤ maxLen := by decide
/-- the operations of a repair -/
def repOps (fm : FM) (os : List DOp) (nm cut : List UInt8) : List DOp :=
  (if (viewF fm os tornN).isSome = true then os ++ [⟨1, tornN, [], []⟩] else os) ++ [⟨0, tornN, [], cut⟩] ++ [⟨2, tornN, nm, []⟩]
theorem view_add (fm : FM) (os : List DOp) (nm cut : List UInt8) : (viewF fm (os ++ [⟨0, nm, [], cut⟩]) nm).isSome = true := by
  rw [viewF, List.foldl_append]; simp [applyF, updG]
/-- the disk without buffered operations -/
def DRep (B Z D : Nat) (P : Option Nat) (fm : FM) (w0 : World) (e : Ending) (w : World) : Prop := ∃ u, e = .returned u ∧ DiskAt B Z w D none fm [] ∧ Chg (fun b => b = D ∨ some b = P) w0 w

set_option maxRecDepth 100000 in
set_option maxHeartbeats 2000000 in
theorem repair_any (B Z D : Nat) (P : Option Nat) (fm : FM) (os : List DOp) (nm : List UInt8) (v : Value) (cut : List UInt8) (w : World) (hB : B ≤ w.heap.size) (hD : DiskAt B Z w D P fm os) (hw : wordF nm = true) (hv : DatB B w v cut) (hcl : cut.length ≤ 1073741824) (hZ : Z ≤ 1073741824) :
    Calls Try.prog 49 #[.pointer (some ⟨D, 0, none⟩), .string (strB nm), v] w (DRep B (Z + cut.length + 3) D P (viewF fm (repOps fm os nm cut)) w) := by
  have CR := Lib.hid (dread_any B Z D fm os tornN w hB hD.rd (by omega) torn_len)
  generalize hex : viewF fm os tornN = ex at CR
  have HEX := Lib.hid hex
  clear hex
  have HREP : Hid (repOps fm os nm cut = (if ex.isSome = true then os ++ [⟨1, tornN, [], []⟩] else os) ++ [⟨0, tornN, [], cut⟩] ++ [⟨2, tornN, nm, []⟩]) := Lib.hid (by unfold repOps; rw [HEX.out])
  generalize repOps fm os nm cut = rops at *
  obtain ⟨A, c, rfl, c1, c2, c3⟩ := Rd.open_ hv
  clear c3
  -- the way from the append on
  have HREST : Hid (∀ (w2 : World) (P2 : Option Nat) (os2 : List DOp), B ≤ w2.heap.size → DiskAt B (Z + 1) w2 D P2 fm os2 → DatB B w2 (.slice A cut.length c) cut → True) := Lib.hid (fun _ _ _ _ _ _ => trivial)
  clear HREST
  go_enter Try.func49, Try.ntmps49
  go_wp2_with fail
  rw [tornV]
  (with_reducible refine CR.out.mono ?_)
  rintro e w1 ⟨v1, rfl, hO1, hb1⟩
  have hD1 := hD.below hB hb1
  have hB1 : B ≤ w1.heap.size := by have := hb1.size; omega
  have hv1 := hv.below hB hb1
  cases hs : ex.isSome with
  | true =>
    have HRE : Hid (rops = os ++ [⟨1, tornN, [], []⟩] ++ [⟨0, tornN, [], cut⟩] ++ [⟨2, tornN, nm, []⟩]) := Lib.hid (by rw [HREP.out, hs]; rfl)
    clear HREP
    have HXX : Hid ((viewF fm os tornN).isSome = true) := Lib.hid (by rw [HEX.out]; exact hs)
    clear hs
    go_wp2_with fail
    rw [tornV]
    (with_reducible refine (dremove_ok B Z D P fm os tornN w1 hB1 hD1 torn_len (by omega) HXX.out).mono ?_)
    rintro e w2 ⟨rfl, P2, hD2, hP2, hC2⟩
    have hB2 : B ≤ w2.heap.size := by have := hC2.size; omega
    have hv2 := hv1.chg hB1 hC2 hD1.br
    go_wp2_with fail
    rw [tornV]
    (with_reducible refine (dappend_ok B (Z + 1) D P2 fm _ tornN _ cut w2 hB2 hD2 torn_word (hv2.rd hB2) (by omega) (by omega)).mono ?_)
    rintro e w3 ⟨rfl, P3, hD3, hP3, hC3⟩
    have hB3 : B ≤ w3.heap.size := by have := hC3.size; omega
    have HX3 := Lib.hid (view_add fm (os ++ [⟨1, tornN, [], []⟩]) tornN cut)
    go_wp2_with fail
    rw [tornV]
    (with_reducible refine (drename_ok B (Z + 1 + cut.length + 1) D P3 fm _ tornN nm w3 hB3 hD3 torn_len (by omega) HX3.out hw).mono ?_)
    rintro e w4 ⟨rfl, P4, hD4, hP4, hC4⟩
    have hB4 : B ≤ w4.heap.size := by have := hC4.size; omega
    go_wp2_with fail
    (with_reducible refine (dsync_any B (Z + 1 + cut.length + 1 + 1) D fm _ w4 hB4 hD4.rd (by omega)).mono ?_)
    rintro e w5 ⟨u, rfl, hD5, hC5⟩
    go_wp2_with fail
    go_end0
    have hre := HRE.out
    refine ⟨_, rfl, ?_, ?_⟩
    · rw [hre, show Z + cut.length + 3 = Z + 1 + cut.length + 1 + 1 by omega]; exact hD5
    · have hq1 := push_trans hC2.size hP2 hP3
      have hq2 := push_trans (Nat.le_trans hC2.size hC3.size) hq1 hP4
      have hz : Chg (fun b => b = D ∨ some b = P4) w4 w5 := hC5.mono (fun i hi => .inl hi)
      have := chg_push hq2 (chg_push hq1 (chg_push hP2 hC2 hC3) hC4) hz
      exact (Chg.of_below hb1 _).trans this (fun _ _ h => h)
  | false =>
    have HRE : Hid (rops = os ++ [⟨0, tornN, [], cut⟩] ++ [⟨2, tornN, nm, []⟩]) := Lib.hid (by rw [HREP.out, hs]; rfl)
    clear HREP
    clear hs
    go_wp2_with fail
    rw [tornV]
    (with_reducible refine (dappend_ok B Z D P fm os tornN _ cut w1 hB1 hD1 torn_word (hv1.rd hB1) (by omega) (by omega)).mono ?_)
    rintro e w3 ⟨rfl, P3, hD3, hP3, hC3⟩
    have hB3 : B ≤ w3.heap.size := by have := hC3.size; omega
    have HX3 := Lib.hid (view_add fm os tornN cut)
    go_wp2_with fail
    rw [tornV]
    (with_reducible refine (drename_ok B (Z + cut.length + 1) D P3 fm _ tornN nm w3 hB3 hD3 torn_len (by omega) HX3.out hw).mono ?_)
    rintro e w4 ⟨rfl, P4, hD4, hP4, hC4⟩
    have hB4 : B ≤ w4.heap.size := by have := hC4.size; omega
    go_wp2_with fail
    (with_reducible refine (dsync_any B (Z + cut.length + 1 + 1) D fm _ w4 hB4 hD4.rd (by omega)).mono ?_)
    rintro e w5 ⟨u, rfl, hD5, hC5⟩
    go_wp2_with fail
    go_end0
    have hre := HRE.out
    refine ⟨_, rfl, ?_, ?_⟩
    · rw [hre]; exact hD5.mono (by omega)
    · have hq2 := push_trans hC3.size hP3 hP4
      have hz : Chg (fun b => b = D ∨ some b = P4) w4 w5 := hC5.mono (fun i hi => .inl hi)
      have := chg_push hq2 (chg_push hP3 hC3 hC4) hz
      exact (Chg.of_below hb1 _).trans this (fun _ _ h => h)
end

section
open Go.RowKit Go.Lib Go.IntWalk

/-- the files and buffered operations behind Open -/
def openD (fm : FM) (os : List DOp) (nm : List UInt8) : FM × List DOp :=
  if (scanF ((viewF fm os nm).getD [])).2 < ((viewF fm os nm).getD []).length then
    (viewF fm (repOps fm os nm (((viewF fm os nm).getD []).take (scanF ((viewF fm os nm).getD [])).2)), [])
  else (fm, os)
/-- what Open leaves -/
def WOpen (B Z D : Nat) (P : Option Nat) (d : FM × List DOp) (recs : List (List UInt8)) (nm : List UInt8) (w0 : World) (e : Ending) (w : World) : Prop :=
  ∃ L v P', e = .returned (.tuple #[.pointer (some ⟨L, 0, none⟩), v, .int .i64 0]) ∧ w0.heap.size ≤ L ∧ LogIs w L (recs.length : Int) (fsum recs : Int) D nm ∧ DatL B w v recs ∧ DiskAt B Z w D P' d.1 d.2 ∧ (P' = none ∨ P' = P) ∧ Chg (fun b => b = D ∨ some b = P) w0 w

theorem RdB.take {w : World} {F : Nat → Prop} {A : Option Addr} {c : Nat} {l : List UInt8} (h : RdB w F (.slice A l.length c) l) (m : Nat) (hm : m ≤ l.length) : RdB w F (.slice A m c) (l.take m) := by
  have := Rd.pre h hm
  unfold RdB
  rw [List.length_take, Nat.min_eq_left hm]
  rw [Nat.mul_one] at this
  have e : bv (l.take m) = (bv l).take m := by simp [bv]
  rw [e]
  exact this
theorem fsum_take {rs : List (List UInt8)} {k : Nat} {r : List UInt8} (h : rs[k]? = some r) : fsum (rs.take (k + 1)) = fsum (rs.take k) + r.length + 8 := by
  obtain ⟨hk, e⟩ := List.getElem?_eq_some_iff.1 h
  rw [List.take_succ_eq_append_getElem hk, fsum_append, e]
  simp [fsum]; omega
theorem fsum_take_le (rs : List (List UInt8)) (k : Nat) : fsum (rs.take k) ≤ fsum rs := by
  conv => rhs; rw [← List.take_append_drop k rs]
  rw [fsum_append]; omega

set_option maxHeartbeats 1000000 in
theorem wopen_bad (B Z D : Nat) (P : Option Nat) (fm : FM) (os : List DOp) (nm : List UInt8) (w : World) (hB : B ≤ w.heap.size) (hD : DiskAt B Z w D P fm os) (hw : wordF nm = false) :
    Calls Try.prog 13 #[.pointer (some ⟨D, 0, none⟩), .string (strB nm)] w fun e w' => e = .returned (.tuple #[.pointer none, .slice none 0 0, .int .i64 8]) ∧ DiskAt B Z w' D P fm os ∧ Below w.heap.size w w' := by
  have CW := Lib.hid (wword_any nm w)
  have HW := Lib.hid hw
  clear hw
  go_enter Try.func13, Try.ntmps13
  go_wp2_with fail
  (with_reducible refine CW.out.mono ?_)
  rintro e w1 ⟨rfl, hb1⟩
  rw [HW.out]
  go_wp2_with fail
  go_ret3
  exact ⟨rfl, hD.below hB hb1, hb1⟩

set_option maxRecDepth 100000 in
set_option maxHeartbeats 4000000 in
theorem wopen_fine (B Z D : Nat) (P : Option Nat) (fm : FM) (os : List DOp) (nm : List UInt8) (w : World) (hB : B ≤ w.heap.size) (hD : DiskAt B Z w D P fm os) (hw : wordF nm = true) (hZ : Z ≤ 1073741824) :
    Calls Try.prog 13 #[.pointer (some ⟨D, 0, none⟩), .string (strB nm)] w (WOpen B (Z + ((viewF fm os nm).getD []).length + 3) D P (openD fm os nm) (scanF ((viewF fm os nm).getD [])).1 nm w) := by
  have hnl : nm.length ≤ maxLen := by
    unfold wordF at hw; simp only [Bool.and_eq_true, decide_eq_true_eq] at hw; unfold maxLen; omega
  have CW := Lib.hid (wword_any nm w)
  have HW := Lib.hid hw
  clear hw
  have hZs : DSz Z fm os := by obtain ⟨M0, n0, g0, pv, hb, hBD, hBM, hM, hn, hG, hP, hZs, _⟩ := hD; exact hZs
  have hln := hZs.view.get nm
  have HOD : Hid (openD fm os nm = if (scanF ((viewF fm os nm).getD [])).2 < ((viewF fm os nm).getD []).length then
    (viewF fm (repOps fm os nm (((viewF fm os nm).getD []).take (scanF ((viewF fm os nm).getD [])).2)), []) else (fm, os)) := Lib.hid rfl
  generalize openD fm os nm = od at *
  have CD := fun w1 (h1 : B ≤ w1.heap.size) (h2 : DiskAt B Z w1 D P fm os) => dread_any B Z D fm os nm w1 h1 h2.rd (by omega) hnl
  generalize viewF fm os nm = vo at *
  have HCD := Lib.hid CD
  clear CD
  have hinv := scanF_inv (vo.getD [])
  have CSC := Lib.hid (fun (v : Value) (w : World) (hv : RdB w (· < w.heap.size) v (vo.getD [])) => scan_any v (vo.getD []) w hv (by omega))
  have hvl : (vo.getD []).length ≤ Z := by omega
  generalize scanF (vo.getD []) = sr at *
  obtain ⟨recs, en⟩ := sr
  simp only at hinv HOD ⊢
  have HINV := Lib.hid hinv
  have hen : en ≤ (vo.getD []).length := hinv.2.2
  have hrl : recs.length ≤ Z := by have := fsum_ge recs; have := hinv.1; omega
  have hfs : fsum recs ≤ Z := by have := hinv.1; omega
  clear hinv hln
  generalize hbl : vo.getD [] = bl at *
  have HBL := Lib.hid hbl
  clear hbl
  -- from the new log on
  have HREST : Hid (∀ (w4 : World) (P4 : Option Nat) (v2 : Value) (wl : World), True) := Lib.hid (fun _ _ _ _ => trivial)
  clear HREST
  obtain ⟨j0, hj, _, _, _⟩ := info_parts infoB
  have HJ := Lib.hid hj
  clear hj
  go_enter Try.func13, Try.ntmps13
  go_wp2_with fail
  (with_reducible refine CW.out.mono ?_)
  rintro e w1 ⟨rfl, hb1⟩
  rw [HW.out]
  have hB1 : B ≤ w1.heap.size := by have := hb1.size; omega
  have hD1 := hD.below hB hb1
  go_wp2_with fail
  (with_reducible refine (HCD.out w1 hB1 hD1).mono ?_)
  rintro e w2 ⟨v2, rfl, hO2, hb2⟩
  rw [HBL.out] at hO2
  have hB2 : B ≤ w2.heap.size := by have := hb2.size; omega
  have hD2 := hD1.below hB1 hb2
  go_wp2_with fail
  (with_reducible refine (CSC.out v2 w2 hO2.rd).mono ?_)
  rintro e w3 ⟨v3, rfl, hL3, hb3⟩
  have hB3 : B ≤ w3.heap.size := by have := hb3.size; omega
  have hD3 := hD2.below hB2 hb3
  have hO3 := hO2.below hb3
  have hR3 : DatL B w3 v3 recs := hL3.dat
  have hb13 : Below w.heap.size w w3 := hb1.trans ((hb2.trans (hb3.mono hb2.size)).mono hb1.size)
  obtain ⟨A2, c2, rfl, p1, p2, p3⟩ := Rd.open_ hO3.rd
  have HP3 := Lib.hid p3
  clear p3
  obtain ⟨A3, c3, rfl, s1, s2, s3⟩ := hR3.open_
  have HS3 := Lib.hid s3
  clear s3
  unfold maxLen at p2 s2
  -- both ways come to a disk, then to the log
  have HLOOP : Hid (∀ (w4 : World) (P4 : Option Nat), True) := Lib.hid (fun _ _ => trivial)
  clear HLOOP
  by_cases hlt : en < bl.length
  · have hq : (en : Int) < (bl.length : Int) := by omega
    have HOD2 : Hid (od = (viewF fm (repOps fm os nm (bl.take en)), [])) := Lib.hid (by rw [HOD.out, if_pos hlt])
    have hsl := run_slice_hi (P := Try.prog) Try.underlying23 HJ.out A2 bl.length c2 en (by omega)
    have hcut : DatB B w3 (.slice A2 en c2) (bl.take en) := DatB.take (DatB.of_own hO3) en hen
    have hcl : (bl.take en).length ≤ 1073741824 := by rw [List.length_take]; omega
    clear HOD
    go_wp2_with fail
    (with_reducible refine (repair_any B Z D P fm os nm _ (bl.take en) w3 hB3 hD3 HW.out hcut hcl hZ).mono ?_)
    rintro e w4 ⟨u4, rfl, hD4, hC4⟩
    have hB4 : B ≤ w4.heap.size := by have := hC4.size; omega
    have hR4 := hR3.chg hB3 hC4 hD3.br hD3.lr
    have hCw : Chg (fun b => b = D ∨ some b = P) w w4 := (Chg.of_below hb13 _).trans hC4 (fun _ _ h => h)
    clear hsl hcut
    go_wp2_with fail
    go_loopw [48] (fun i wr => ∃ k : Nat, k ≤ recs.length ∧ i = .int .i64 (k : Int) ∧ LogIs wr w4.heap.size (k : Int) (fsum (recs.take k) : Int) D nm ∧ Chg (· = w4.heap.size) (w4.alloc (.cells #[.int .i64 0, .int .i64 0, .pointer (some ⟨D, 0, none⟩), .string (strB nm)] 87)) wr) (fun i _ => recs.length - (intOf i).toNat)
    case atStart => exact ⟨0, Nat.zero_le _, rfl, heap_alloc_new w4 _, Chg.refl _ _⟩
    case round =>
      obtain ⟨k, hk, rfl, hLk, hCk⟩ := hrel
      have hBa : B ≤ (w4.alloc (.cells #[.int .i64 0, .int .i64 0, .pointer (some ⟨D, 0, none⟩), .string (strB nm)] 87)).heap.size := by simp; omega
      have hna : NK (w4.alloc (.cells #[.int .i64 0, .int .i64 0, .pointer (some ⟨D, 0, none⟩), .string (strB nm)] 87)) w4.heap.size := ⟨_, _, _, heap_alloc_new w4 _, by decide, by decide, by decide⟩
      have hnl' : ∀ b, LR B (w4.alloc (.cells #[.int .i64 0, .int .i64 0, .pointer (some ⟨D, 0, none⟩), .string (strB nm)] 87)) b → ¬ b = w4.heap.size := by
        rintro b (h | ⟨cs, h⟩) rfl
        · omega
        · rw [heap_alloc_new w4] at h; simp only [Option.some.injEq, Obj.cells.injEq] at h; exact absurd h.2.1 (by decide)
      have hRk : DatL B wr (.slice A3 recs.length c3) recs := (hR4.below hB4 (Below.of_alloc _)).chg hBa hCk (fun b hb h => by subst h; exact NK.br hB4 hna hb) hnl'
      by_cases hlk : k < recs.length
      · have hrk : recs[k]? = some recs[k] := List.getElem?_eq_getElem hlk
        obtain ⟨bb, ob, ub, rfl, gb, db⟩ := DatL.elem hRk hrk
        have hrb := HINV.out.2.1 _ (List.getElem_mem hlk)
        have HFT := Lib.hid (fsum_take hrk)
        have hfk := fsum_take_le recs k
        obtain ⟨Xb, xb, rfl, _, _, _⟩ := Rd.open_ db
        generalize recs[k] = r at *
        have HLN : Hid (lenF (r.length : Int) = r.length + 8) := Lib.hid (by unfold lenF; rw [if_neg (by omega)])
        clear hrk
        go_wp2_with fail
        (with_reducible refine (count_any w4.heap.size D (k : Int) (fsum (recs.take k) : Int) _ nm wr hLk ?_ ?_ ?_ ?_).mono ?_)
        · omega
        · omega
        · omega
        · omega
        rintro e w5 ⟨u5, rfl, hL5, hC5⟩
        rw [HLN.out] at hL5
        go_wp2_with fail
        go_roundw
        case rel =>
          refine ⟨k + 1, by omega, by go_num, ?_, hCk.trans hC5 (fun _ _ h => h)⟩
          rw [HFT.out]
          push_cast
          rw [Int.add_assoc]
          exact hL5
        case measure => simp [intOf]; omega
      · have hke : k = recs.length := by omega
        have HK := Lib.hid hke
        clear hke
        go_wp2_with fail
        go_ret3
        refine ⟨w4.heap.size, _, none, rfl, by have := hCw.size; omega, ?_, hRk, ?_, .inl rfl, ?_⟩
        · have := hLk
          rw [HK.out, List.take_length] at this
          exact this
        · rw [HOD2.out]
          exact ((hD4.below hB4 (Below.of_alloc _)).keep hBa hCk (fun b hb => by subst hb; exact ⟨hB4, hna⟩)).mono (by rw [List.length_take]; omega)
        · exact (hCw.alloc _).trans hCk (fun i hi h => by have := hCw.size; omega)
  · have hq : ¬ (en : Int) < (bl.length : Int) := by omega
    have HOD2 : Hid (od = (fm, os)) := Lib.hid (by rw [HOD.out, if_neg hlt])
    have hCw : Chg (fun b => b = D ∨ some b = P) w w3 := Chg.of_below hb13 _
    clear HOD
    go_wp2_with fail
    go_loopw [48] (fun i wr => ∃ k : Nat, k ≤ recs.length ∧ i = .int .i64 (k : Int) ∧ LogIs wr w3.heap.size (k : Int) (fsum (recs.take k) : Int) D nm ∧ Chg (· = w3.heap.size) (w3.alloc (.cells #[.int .i64 0, .int .i64 0, .pointer (some ⟨D, 0, none⟩), .string (strB nm)] 87)) wr) (fun i _ => recs.length - (intOf i).toNat)
    case atStart => exact ⟨0, Nat.zero_le _, rfl, heap_alloc_new w3 _, Chg.refl _ _⟩
    case round =>
      obtain ⟨k, hk, rfl, hLk, hCk⟩ := hrel
      have hBa : B ≤ (w3.alloc (.cells #[.int .i64 0, .int .i64 0, .pointer (some ⟨D, 0, none⟩), .string (strB nm)] 87)).heap.size := by simp; omega
      have hna : NK (w3.alloc (.cells #[.int .i64 0, .int .i64 0, .pointer (some ⟨D, 0, none⟩), .string (strB nm)] 87)) w3.heap.size := ⟨_, _, _, heap_alloc_new w3 _, by decide, by decide, by decide⟩
      have hnl' : ∀ b, LR B (w3.alloc (.cells #[.int .i64 0, .int .i64 0, .pointer (some ⟨D, 0, none⟩), .string (strB nm)] 87)) b → ¬ b = w3.heap.size := by
        rintro b (h | ⟨cs, h⟩) rfl
        · omega
        · rw [heap_alloc_new w3] at h; simp only [Option.some.injEq, Obj.cells.injEq] at h; exact absurd h.2.1 (by decide)
      have hRk : DatL B wr (.slice A3 recs.length c3) recs := (hR3.below hB3 (Below.of_alloc _)).chg hBa hCk (fun b hb h => by subst h; exact NK.br hB3 hna hb) hnl'
      by_cases hlk : k < recs.length
      · have hrk : recs[k]? = some recs[k] := List.getElem?_eq_getElem hlk
        obtain ⟨bb, ob, ub, rfl, gb, db⟩ := DatL.elem hRk hrk
        have hrb := HINV.out.2.1 _ (List.getElem_mem hlk)
        have HFT := Lib.hid (fsum_take hrk)
        have hfk := fsum_take_le recs k
        obtain ⟨Xb, xb, rfl, _, _, _⟩ := Rd.open_ db
        generalize recs[k] = r at *
        have HLN : Hid (lenF (r.length : Int) = r.length + 8) := Lib.hid (by unfold lenF; rw [if_neg (by omega)])
        clear hrk
        go_wp2_with fail
        (with_reducible refine (count_any w3.heap.size D (k : Int) (fsum (recs.take k) : Int) _ nm wr hLk ?_ ?_ ?_ ?_).mono ?_)
        · omega
        · omega
        · omega
        · omega
        rintro e w5 ⟨u5, rfl, hL5, hC5⟩
        rw [HLN.out] at hL5
        go_wp2_with fail
        go_roundw
        case rel =>
          refine ⟨k + 1, by omega, by go_num, ?_, hCk.trans hC5 (fun _ _ h => h)⟩
          rw [HFT.out]
          push_cast
          rw [Int.add_assoc]
          exact hL5
        case measure => simp [intOf]; omega
      · have hke : k = recs.length := by omega
        have HK := Lib.hid hke
        clear hke
        go_wp2_with fail
        go_ret3
        refine ⟨w3.heap.size, _, P, rfl, by have := hCw.size; omega, ?_, hRk, ?_, .inr rfl, ?_⟩
        · have := hLk
          rw [HK.out, List.take_length] at this
          exact this
        · rw [HOD2.out]
          exact ((hD3.below hB3 (Below.of_alloc _)).keep hBa hCk (fun b hb => by subst hb; exact ⟨hB3, hna⟩)).mono (by omega)
        · exact (hCw.alloc _).trans hCk (fun i hi h => by have := hCw.size; omega)
theorem wopen_ok (B Z D : Nat) (P : Option Nat) (fm : FM) (os : List DOp) (nm : List UInt8) (w : World) (hB : B ≤ w.heap.size) (hD : DiskAt B Z w D P fm os) (hw : wordF nm = true) (hZ : Z ≤ 1073741824) :
    Calls Try.prog 13 #[.pointer (some ⟨D, 0, none⟩), .string (strB nm)] w (WOpen B (2 * Z + 3) D P (openD fm os nm) (scanF ((viewF fm os nm).getD [])).1 nm w) := by
  have hZs : DSz Z fm os := by obtain ⟨M0, n0, g0, pv, hb, hBD, hBM, hM, hn, hG, hP, hZs, _⟩ := hD; exact hZs
  have hln := hZs.view.get nm
  refine (wopen_fine B Z D P fm os nm w hB hD hw hZ).mono ?_
  rintro e w' ⟨L, v, P', h1, h2, h3, h4, h5, h6, h7⟩
  exact ⟨L, v, P', h1, h2, h3, h4, h5.mono (by omega), h6, h7⟩
end

section
open Go.RowKit Go.Lib Go.IntWalk

/-- records that are appended -/
def aps (nm : List UInt8) (rs : List (List UInt8)) : List DOp := rs.map fun r => ⟨0, nm, [], frm r⟩
theorem view_aps (fm : FM) (nm : List UInt8) (rs : List (List UInt8)) : (viewF fm (aps nm rs) nm).getD [] = (fm nm).getD [] ++ frs rs := by
  induction rs generalizing fm with
  | nil => simp [aps, viewF, frs]
  | cons r rs ih =>
    have e : viewF fm (aps nm (r :: rs)) = viewF (applyF fm ⟨0, nm, [], frm r⟩) (aps nm rs) := rfl
    rw [e, ih]
    simp [applyF, updG, frs]
theorem aps_snoc (nm : List UInt8) (rs : List (List UInt8)) (r : List UInt8) : aps nm rs ++ [⟨0, nm, [], frm r⟩] = aps nm (rs ++ [r]) := by simp [aps]
theorem aps_len (nm : List UInt8) (rs : List (List UInt8)) : (aps nm rs).length = rs.length := by simp [aps]
theorem open_same {fm : FM} {os : List DOp} {nm : List UInt8} {rs : List (List UInt8)} (h : (viewF fm os nm).getD [] = frs rs) (hr : ∀ r ∈ rs, r.length ≤ 1048576) : openD fm os nm = (fm, os) ∧ (scanF ((viewF fm os nm).getD [])).1 = rs := by
  have hs := scanF_frames rs [] hr (by simp)
  rw [List.append_nil] at hs
  unfold openD
  rw [h, hs]
  refine ⟨if_neg ?_, rfl⟩
  rw [frs_length]
  exact Nat.lt_irrefl _
theorem open_torn {fm : FM} {os : List DOp} {nm tail : List UInt8} {rs : List (List UInt8)} (h : (viewF fm os nm).getD [] = frs rs ++ tail) (hr : ∀ r ∈ rs, r.length ≤ 1048576) (ht : tail.length < 8) : (scanF ((viewF fm os nm).getD [])).1 = rs := by
  rw [h, scanF_frames rs tail hr ht]
theorem crash_first {fm : FM} {nm : List UInt8} (rs : List (List UInt8)) (torn : Int) : ∃ tail : List UInt8, tail.length ≤ torn.toNat ∧ (viewF (viewF fm (crashOps (aps nm rs) 0 torn)) [] nm).getD [] = (fm nm).getD [] ++ tail := by
  cases rs with
  | nil => exact ⟨[], by simp, by simp [crashOps, aps, viewF]⟩
  | cons r rs =>
    by_cases ht : 0 < torn
    · refine ⟨(frm r).take torn.toNat, by rw [List.length_take]; omega, ?_⟩
      simp [crashOps, aps, tornOp, ht, viewF, applyF, updG]
    · refine ⟨[], by simp, ?_⟩
      simp [crashOps, aps, tornOp, ht, viewF]

def nm7 : List UInt8 := [102, 48, 48, 48, 48, 48, 49]
theorem nm7V : Value.string ⟨#[102, 48, 48, 48, 48, 48, 49]⟩ = .string (strB nm7) := rfl
theorem nm7_word : wordF nm7 = true := by decide
theorem DatL.len0 {B : Nat} {w : World} {v : Value} (h : DatL B w v []) : ∃ A c, v = .slice A 0 c := by
  obtain ⟨A, c, hv, _⟩ := h.open_
  exact ⟨A, c, hv⟩
theorem rdB_fr {B : Nat} (w : World) (m : List UInt8) (fr : Nat × Nat) (hm : m.length ≤ 1000) : DatB B (w.alloc (.cells (bv m).toArray 5 fr)) (.slice (some ⟨w.heap.size, 0, none⟩) m.length m.length) m := by
  refine ⟨by rw [bv_length, Nat.mul_one], _, _, rfl, Nat.le_refl _, by simp only [maxLen]; omega, fun h => (Option.some_ne_none _ h).elim, fun _ => ⟨_, rfl, .inr ⟨_, _, heap_alloc_new w _⟩, fun j u hu => ?_⟩⟩
  have hadd : (⟨w.heap.size, 0, none⟩ : Addr).add j = ⟨w.heap.size, j, none⟩ := by unfold Addr.add; split <;> simp_all
  rw [hadd, cell_of_row (w.alloc (.cells (bv m).toArray 5 fr)) w.heap.size j (bv m).toArray 5 fr (heap_alloc_new w _)]
  simpa using hu
set_option maxRecDepth 100000 in
set_option maxHeartbeats 4000000 in
theorem wworks_any (w : World) : Calls Try.prog 14 #[] w fun e w' => e = .returned (.bool true) ∧ Below w.heap.size w w' := by
  have hB0 : w.heap.size ≤ w.heap.size := Nat.le_refl _
  generalize hBe : w.heap.size = B at hB0
  have HBE := Lib.hid hBe
  clear hBe
  go_enter Try.func14, Try.ntmps14
  go_wp2_with fail
  (with_reducible refine (dnew_any B w (by have := HBE.out; omega)).mono ?_)
  rintro e w1 ⟨D, rfl, hDl, hD1, hb1⟩
  have hB1 : B ≤ w1.heap.size := by have := hb1.size; have := HBE.out; omega
  go_wp2_with fail
  rw [nm7V]
  (with_reducible refine (wopen_ok B 0 D none (fun _ => none) [] nm7 w1 hB1 hD1 nm7_word (by omega)).mono ?_)
  rintro e w2 ⟨L, v2, P2, rfl, hL2, hLog2, hR2, hD2, hP2, hC2⟩
  have ho := @open_same (fun _ => none) [] nm7 [] (by simp [viewF, frs]) (by simp)
  rw [ho.1] at hD2
  rw [ho.2] at hLog2 hR2
  clear ho
  have hB2 : B ≤ w2.heap.size := by have := hC2.size; omega
  have hBL : B ≤ L := by omega
  obtain ⟨A2, c2, rfl⟩ := hR2.len0
  simp only [List.length_nil, fsum, List.map_nil, List.sum_nil] at hLog2
  rw [show ((0 : Nat) : Int) = 0 from rfl] at hLog2
  have kc := fun (w : World) (C : Array Value) (n c : Nat) => Lib.run_convert_bytes_const (P := Try.prog) w 23 5 C n c Try.underlying23 Try.underlying5
  go_wp2_with fail
  have hda : DatB B (w2.alloc (.cells #[.int .u8 97, .int .u8 98] 5 (2, 3))) (.slice (some ⟨w2.heap.size, 0, none⟩) 2 2) [97, 98] := rdB_fr w2 [97, 98] (2, 3) (by simp)
  have hba : Below w2.heap.size w2 (w2.alloc (.cells #[.int .u8 97, .int .u8 98] 5 (2, 3))) := Below.of_alloc _
  have hBa : B ≤ (w2.alloc (.cells #[.int .u8 97, .int .u8 98] 5 (2, 3))).heap.size := by simp; omega
  (with_reducible refine (wappend_ok B 3 D L P2 (fun _ => none) [] nm7 0 0 _ [97, 98] _ hBa (hD2.below hB2 hba) (hLog2.below hba) hBL nm7_word (hda.rd hBa) ?_ ?_ ?_ ?_ ?_ ?_).mono ?_)
  all_goals first | omega | (simp; done) | skip
  rintro e w3 ⟨rfl, P3, hD3, hP3, hLog3, hC3⟩
  have hDa := hD2.below hB2 hba
  have hW1 : Below B w w1 := HBE.out ▸ hb1
  have hW2 : Below B w w2 := hW1.trans (hC2.below hB1 (fun i hi => hD1.ge hi))
  have hW3 : Below B w w3 := (hW2.trans (hba.mono hB2)).trans (hC3.below hBa (fun i hi => by rcases hi with h | h | h; (exact hDa.ge (.inl h)); (omega); (exact hDa.ge (.inr h))))
  have hB3 : B ≤ w3.heap.size := by have := hC3.size; omega
  have hD3 : DiskAt B 14 w3 D P3 (fun _ => none) (aps nm7 [[97, 98]]) := hD3
  have hLog3 : LogIs w3 L 1 10 D nm7 := by simpa using hLog3
  clear hda hba hBa hDa hP3 hC3 hP2 hC2 hD2 hLog2 hb1 hD1 hR2
  go_wp2_with fail
  have hda : DatB B (w3.alloc (.cells #[.int .u8 99] 5 (1, 2))) (.slice (some ⟨w3.heap.size, 0, none⟩) 1 1) [99] := rdB_fr w3 [99] (1, 2) (by simp)
  have hba : Below w3.heap.size w3 (w3.alloc (.cells #[.int .u8 99] 5 (1, 2))) := Below.of_alloc _
  have hBa : B ≤ (w3.alloc (.cells #[.int .u8 99] 5 (1, 2))).heap.size := by simp; omega
  (with_reducible refine (wappend_ok B 14 D L P3 (fun _ => none) (aps nm7 [[97, 98]]) nm7 1 10 _ [99] _ hBa (hD3.below hB3 hba) (hLog3.below hba) hBL nm7_word (hda.rd hBa) ?_ ?_ ?_ ?_ ?_ ?_).mono ?_)
  all_goals first | omega | (simp; done) | skip
  rintro e w4 ⟨rfl, P4, hD4, hP4, hLog4, hC4⟩
  have hDa := hD3.below hB3 hba
  have hW4 : Below B w w4 := (hW3.trans (hba.mono hB3)).trans (hC4.below hBa (fun i hi => by rcases hi with h | h | h; (exact hDa.ge (.inl h)); (omega); (exact hDa.ge (.inr h))))
  have hB4 : B ≤ w4.heap.size := by have := hC4.size; omega
  have hD4 : DiskAt B 24 w4 D P4 (fun _ => none) (aps nm7 [[97, 98], [99]]) := hD4
  have hLog4 : LogIs w4 L 2 19 D nm7 := by simpa using hLog4
  clear hda hba hBa hDa hP4 hC4 hD3 hLog3
  go_wp2_with fail
  (with_reducible refine (wsync_any B 24 D L P4 (fun _ => none) (aps nm7 [[97, 98], [99]]) nm7 2 19 w4 hB4 hD4 hLog4 (by omega)).mono ?_)
  rintro e w5 ⟨u5, rfl, hD5, hC5⟩
  have hLD : ¬ L = D := fun h => hD4.not_log hLog4 (by decide) (by decide) (.inl h)
  have hLog5 := hLog4.chg hC5 hLD
  have hW5 : Below B w w5 := hW4.trans (hC5.below hB4 (fun i hi => hD4.ge (.inl hi)))
  have hB5 : B ≤ w5.heap.size := by have := hC5.size; omega
  have hfm : (viewF (fun _ => none) (aps nm7 [[97, 98], [99]]) nm7).getD [] = frs [[97, 98], [99]] := view_aps _ _ _
  generalize viewF (fun _ => none) (aps nm7 [[97, 98], [99]]) = fm5 at *
  have HFM := Lib.hid hfm
  clear hfm hC5 hD4 hLog4
  go_wp2_with fail
  (with_reducible refine (wlen_any L D nm7 2 19 w5 hLog5).mono ?_)
  rintro e w5' ⟨rfl, rfl⟩
  go_wp2_with fail
  (with_reducible refine (wsize_any L D nm7 2 19 w5 hLog5).mono ?_)
  rintro e w5' ⟨rfl, rfl⟩
  go_wp2_with fail
  (with_reducible refine (wname_any L D nm7 2 19 w5 hLog5).mono ?_)
  rintro e w5' ⟨rfl, rfl⟩
  rw [← nm7V]
  go_wp2_with fail
  have hda : DatB B (w5.alloc (.cells #[.int .u8 97, .int .u8 98, .int .u8 99] 5 (3, 4))) (.slice (some ⟨w5.heap.size, 0, none⟩) 3 3) [97, 98, 99] := rdB_fr w5 [97, 98, 99] (3, 4) (by simp)
  have hba : Below w5.heap.size w5 (w5.alloc (.cells #[.int .u8 97, .int .u8 98, .int .u8 99] 5 (3, 4))) := Below.of_alloc _
  have hBa : B ≤ (w5.alloc (.cells #[.int .u8 97, .int .u8 98, .int .u8 99] 5 (3, 4))).heap.size := by simp; omega
  (with_reducible refine (wappend_ok B 24 D L none fm5 [] nm7 2 19 _ [97, 98, 99] _ hBa (hD5.below hB5 hba) (hLog5.below hba) hBL nm7_word (hda.rd hBa) ?_ ?_ ?_ ?_ ?_ ?_).mono ?_)
  all_goals first | omega | (simp; done) | skip
  rintro e w6 ⟨rfl, P6, hD6, hP6, hLog6, hC6⟩
  have hDa := hD5.below hB5 hba
  have hW6 : Below B w w6 := (hW5.trans (hba.mono hB5)).trans (hC6.below hBa (fun i hi => by rcases hi with h | h | h; (exact hDa.ge (.inl h)); (omega); (exact hDa.ge (.inr h))))
  have hB6 : B ≤ w6.heap.size := by have := hC6.size; omega
  have hD6 : DiskAt B 36 w6 D P6 fm5 (aps nm7 [[97, 98, 99]]) := hD6
  clear hda hba hBa hDa hP6 hC6 hD5 hLog5
  go_wp2_with fail
  (with_reducible refine (dcrash_any B 36 D P6 fm5 (aps nm7 [[97, 98, 99]]) 0 5 w6 hB6 hD6 (by omega)).mono ?_)
  rintro e w7 ⟨u7, rfl, hD7, hC7⟩
  have hW7 : Below B w w7 := hW6.trans (hC7.below hB6 (fun i hi => hD6.ge (.inl hi)))
  have hB7 : B ≤ w7.heap.size := by have := hC7.size; omega
  obtain ⟨tail, ht1, ht2⟩ := @crash_first fm5 nm7 [[97, 98, 99]] 5
  rw [HFM.out] at ht2
  generalize viewF fm5 (crashOps (aps nm7 [[97, 98, 99]]) 0 5) = fm7 at *
  have hrc := open_torn ht2 (by simp) (by simp at ht1; omega)
  have HRC := Lib.hid hrc
  have HOS : Hid ((openD fm7 [] nm7).2 = []) := Lib.hid (by unfold openD; split <;> rfl)
  clear hrc ht1 ht2 hC7 hD6
  go_wp2_with fail
  rw [nm7V]
  (with_reducible refine (wopen_ok B 36 D none fm7 [] nm7 w7 hB7 hD7 nm7_word (by omega)).mono ?_)
  rintro e w8 ⟨M, v8, P8, rfl, hM8, hLog8, hR8, hD8, hP8, hC8⟩
  rw [HRC.out] at hLog8 hR8
  rw [HOS.out] at hD8
  have hLog8 : LogIs w8 M 2 19 D nm7 := by simpa [fsum] using hLog8
  have hB8 : B ≤ w8.heap.size := by have := hC8.size; omega
  have hW8 : Below B w w8 := hW7.trans (hC8.below hB7 (fun i hi => hD7.ge hi))
  clear hC8 hD7
  generalize (openD fm7 [] nm7).1 = fm8 at *
  obtain ⟨A8, c8, rfl, s1, s2, s3⟩ := hR8.open_
  clear s3
  have kc2 : (convert 23 23 (.slice (some ⟨w8.heap.size + 1, 0, none⟩) 1 1)).run Try.prog ((w8.alloc (.cells #[.int .u8 97, .int .u8 98] 5 (2, 3))).alloc (.cells #[.int .u8 99] 5)) = .ok (.slice (some ⟨w8.heap.size + 1, 0, none⟩) 1 1) ((w8.alloc (.cells #[.int .u8 97, .int .u8 98] 5 (2, 3))).alloc (.cells #[.int .u8 99] 5 (1, 2))) := by
    have := kc (w8.alloc (.cells #[.int .u8 97, .int .u8 98] 5 (2, 3))) #[.int .u8 99] 1 1
    simpa using this
  go_wp2_with fail
  have hBa1 : B ≤ (w8.alloc (.cells #[.int .u8 97, .int .u8 98] 5 (2, 3))).heap.size := by simp; omega
  have hBa2 : B ≤ ((w8.alloc (.cells #[.int .u8 97, .int .u8 98] 5 (2, 3))).alloc (.cells #[.int .u8 99] 5 (1, 2))).heap.size := by simp; omega
  have hBa3 : B ≤ (((w8.alloc (.cells #[.int .u8 97, .int .u8 98] 5 (2, 3))).alloc (.cells #[.int .u8 99] 5 (1, 2))).alloc (.cells #[.slice (some ⟨w8.heap.size, 0, none⟩) 2 2, .slice (some ⟨w8.heap.size + 1, 0, none⟩) 1 1] 23)).heap.size := by simp; omega
  have hba : Below w8.heap.size w8 (((w8.alloc (.cells #[.int .u8 97, .int .u8 98] 5 (2, 3))).alloc (.cells #[.int .u8 99] 5 (1, 2))).alloc (.cells #[.slice (some ⟨w8.heap.size, 0, none⟩) 2 2, .slice (some ⟨w8.heap.size + 1, 0, none⟩) 1 1] 23)) := ((Below.of_alloc _).trans ((Below.of_alloc _).mono (by simp))).trans ((Below.of_alloc _).mono (by simp; omega))
  have hx1 : DatB B (((w8.alloc (.cells #[.int .u8 97, .int .u8 98] 5 (2, 3))).alloc (.cells #[.int .u8 99] 5 (1, 2))).alloc (.cells #[.slice (some ⟨w8.heap.size, 0, none⟩) 2 2, .slice (some ⟨w8.heap.size + 1, 0, none⟩) 1 1] 23)) (.slice (some ⟨w8.heap.size, 0, none⟩) 2 2) [97, 98] := ((rdB_fr w8 [97, 98] (2, 3) (by simp)).alloc hBa1 _).alloc hBa2 _
  have hx2 : DatB B (((w8.alloc (.cells #[.int .u8 97, .int .u8 98] 5 (2, 3))).alloc (.cells #[.int .u8 99] 5 (1, 2))).alloc (.cells #[.slice (some ⟨w8.heap.size, 0, none⟩) 2 2, .slice (some ⟨w8.heap.size + 1, 0, none⟩) 1 1] 23)) (.slice (some ⟨w8.heap.size + 1, 0, none⟩) 1 1) [99] := by
    have := (rdB_fr (B := B) (w8.alloc (.cells #[.int .u8 97, .int .u8 98] 5 (2, 3))) [99] (1, 2) (by simp)).alloc hBa2 (.cells #[.slice (some ⟨w8.heap.size, 0, none⟩) 2 2, .slice (some ⟨w8.heap.size + 1, 0, none⟩) 1 1] 23)
    rw [World.size_alloc] at this
    exact this
  have hLL : DatL B (((w8.alloc (.cells #[.int .u8 97, .int .u8 98] 5 (2, 3))).alloc (.cells #[.int .u8 99] 5 (1, 2))).alloc (.cells #[.slice (some ⟨w8.heap.size, 0, none⟩) 2 2, .slice (some ⟨w8.heap.size + 1, 0, none⟩) 1 1] 23)) (.slice (some ⟨w8.heap.size + 1 + 1, 0, none⟩) 2 2) [[97, 98], [99]] := by
    refine ⟨[.slice (some ⟨w8.heap.size, 0, none⟩) 2 2, .slice (some ⟨w8.heap.size + 1, 0, none⟩) 1 1], ?_, ?_⟩
    · have h := Rd.new' ((w8.alloc (.cells #[.int .u8 97, .int .u8 98] 5 (2, 3))).alloc (.cells #[.int .u8 99] 5 (1, 2))) (w8.heap.size + 1 + 1) (by simp) [.slice (some ⟨w8.heap.size, 0, none⟩) 2 2, .slice (some ⟨w8.heap.size + 1, 0, none⟩) 1 1] 23 1 2 rfl (by unfold maxLen; omega)
      refine Rd.wide h ?_
      rintro b rfl
      have h2 := heap_alloc_new ((w8.alloc (.cells #[.int .u8 97, .int .u8 98] 5 (2, 3))).alloc (.cells #[.int .u8 99] 5 (1, 2))) (.cells #[.slice (some ⟨w8.heap.size, 0, none⟩) 2 2, .slice (some ⟨w8.heap.size + 1, 0, none⟩) 1 1] 23)
      exact .inr ⟨_, by simpa using h2⟩
    · intro i u l hu hl
      match i, hu, hl with
      | 0, hu, hl => simp at hu hl; subst hu; subst hl; exact hx1
      | 1, hu, hl => simp at hu hl; subst hu; subst hl; exact hx2
      | n + 2, hu, hl => simp at hu
  have hR9 : DatL B (((w8.alloc (.cells #[.int .u8 97, .int .u8 98] 5 (2, 3))).alloc (.cells #[.int .u8 99] 5 (1, 2))).alloc (.cells #[.slice (some ⟨w8.heap.size, 0, none⟩) 2 2, .slice (some ⟨w8.heap.size + 1, 0, none⟩) 1 1] 23)) (.slice A8 2 c8) [[97, 98], [99]] := hR8.below hB8 hba
  (with_reducible refine (lists_any B _ _ [[97, 98], [99]] [[97, 98], [99]] _ hBa3 hR9 hLL).mono ?_)
  rintro e w9 ⟨rfl, hb9⟩
  rw [show decide (([[97, 98], [99]] : List (List UInt8)) = [[97, 98], [99]]) = true from by decide]
  have hb89 : Below w8.heap.size w8 w9 := hba.trans (hb9.mono (by simp; omega))
  have hLog9 := hLog8.below hb89
  have hD9 := hD8.below hB8 hb89
  have hW9 : Below B w w9 := hW8.trans (hb89.mono hB8)
  clear kc kc2 hx1 hx2 hLL hR9 hba hb9 hb89 hBa1 hBa2 hBa3
  go_wp2_with fail
  (with_reducible refine (wsize_any M D nm7 2 19 w9 hLog9).mono ?_)
  rintro e w9' ⟨rfl, rfl⟩
  go_wp2_with fail
  (with_reducible refine (dpending_any B _ D P8 fm8 [] w9 hD9).mono ?_)
  rintro e w9' ⟨rfl, rfl⟩
  go_wp2_with fail
  go_ret
  exact ⟨rfl, HBE.out ▸ hW9⟩
end
end Go.Proofs.Ytooojgokkigncaa
