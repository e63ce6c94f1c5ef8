/-
  Logs: the parts.
-/
import Derived.Test.YtooojgokkigncaaDiskI
namespace Go.Proofs.Ytooojgokkigncaa
open Go.RowKit Go.Lib Go.IntWalk

/-- an open log -/
def LogIs (w : World) (L : Nat) (rec by_ : Int) (D : Nat) (nm : List UInt8) : Prop :=
  w.heap[L]? = some (.cells #[.int .i64 rec, .int .i64 by_, .pointer (some ⟨D, 0, none⟩), .string (strB nm)] 87 (0, 0))
section
variable {w w' : World} {S : Nat → Prop} {L D : Nat} {rec by_ : Int} {nm : List UInt8}
theorem LogIs.lt (h : LogIs w L rec by_ D nm) : L < w.heap.size := (Array.getElem?_eq_some_iff.1 h).1
theorem LogIs.nk (h : LogIs w L rec by_ D nm) : NK w L := ⟨_, _, _, h, by decide, by decide, by decide⟩
theorem LogIs.chg (h : LogIs w L rec by_ D nm) (hc : Chg S w w') (hs : ¬ S L) : LogIs w' L rec by_ D nm := (hc.block L h.lt hs).trans h
theorem LogIs.below (h : LogIs w L rec by_ D nm) (hb : Below w.heap.size w w') : LogIs w' L rec by_ D nm := (hb.block L h.lt).trans h
end
/-- blocks of a disk are no log -/
theorem DiskAt.not_log {B Z : Nat} {w : World} {D : Nat} {P : Option Nat} {fm : FM} {os : List DOp} (h : DiskAt B Z w D P fm os) {b : Nat} {cs : Array Value} {t : TypeId} {fr : Nat × Nat} (hb : w.heap[b]? = some (.cells cs t fr)) (h1 : ¬ t = 80) (h2 : ¬ t = 92) : ¬ (b = D ∨ some b = P) := by
  obtain ⟨M, n, g, pv, hD, hBD, hBM, hM, hn, hG, ⟨ps, hps, hown, hO⟩, hZs, rfl⟩ := h
  rintro (rfl | e)
  · rw [hb] at hD; simp only [Option.some.injEq, Obj.cells.injEq] at hD; exact h1 hD.2.1
  · obtain ⟨_, cur, hc⟩ := own_block hown e
    rw [hb] at hc; simp only [Option.some.injEq, Obj.cells.injEq] at hc; exact h2 hc.2.1
theorem DiskAt.ge {B Z : Nat} {w : World} {D : Nat} {P : Option Nat} {fm : FM} {os : List DOp} (h : DiskAt B Z w D P fm os) {b : Nat} (hb : b = D ∨ some b = P) : B ≤ b := by
  obtain ⟨M, n, g, pv, hD, hBD, hBM, hM, hn, hG, ⟨ps, hps, hown, hO⟩, hZs, rfl⟩ := h
  rcases hb with rfl | e
  · exact hBD
  · exact (own_block hown e).1
theorem DiskAt.br {B Z : Nat} {w : World} {D : Nat} {P : Option Nat} {fm : FM} {os : List DOp} (h : DiskAt B Z w D P fm os) : ∀ b, BR B w b → ¬ (b = D ∨ some b = P) := by
  rintro b (hb | ⟨cs, fr, hb⟩) hS
  · have := h.ge hS; omega
  · exact h.not_log hb (by decide) (by decide) hS
theorem DiskAt.lr {B Z : Nat} {w : World} {D : Nat} {P : Option Nat} {fm : FM} {os : List DOp} (h : DiskAt B Z w D P fm os) : ∀ b, LR B w b → ¬ (b = D ∨ some b = P) := by
  rintro b (hb | ⟨cs, hb⟩) hS
  · have := h.ge hS; omega
  · exact h.not_log hb (by decide) (by decide) hS
theorem chg_push {D : Nat} {P P1 : Option Nat} {w0 w1 w2 : World} (hP1 : P1 = P ∨ ∃ p, P1 = some p ∧ w0.heap.size ≤ p) (hc1 : Chg (fun b => b = D ∨ some b = P) w0 w1) (hc2 : Chg (fun b => b = D ∨ some b = P1) w1 w2) : Chg (fun b => b = D ∨ some b = P) w0 w2 := by
  refine hc1.trans hc2 ?_
  rintro i hi (rfl | e)
  · exact .inl rfl
  · rcases hP1 with rfl | ⟨p, rfl, hp⟩
    · exact .inr e
    · injection e with e; omega
theorem push_trans {P P1 P2 : Option Nat} {w0 w1 : World} (hs : w0.heap.size ≤ w1.heap.size) (h1 : P1 = P ∨ ∃ p, P1 = some p ∧ w0.heap.size ≤ p) (h2 : P2 = P1 ∨ ∃ p, P2 = some p ∧ w1.heap.size ≤ p) : P2 = P ∨ ∃ p, P2 = some p ∧ w0.heap.size ≤ p := by
  rcases h2 with rfl | ⟨p, rfl, hp⟩
  · exact h1
  · exact .inr ⟨p, rfl, by omega⟩

set_option maxRecDepth 100000 in
set_option maxHeartbeats 1000000 in
theorem count_any (L D : Nat) (rec by_ n : Int) (nm : List UInt8) (w : World) (hL : LogIs w L rec by_ D nm) (h1 : 0 ≤ rec) (h2 : rec ≤ 1099511627776) (h3 : 0 ≤ by_) (h4 : by_ ≤ 1099511627776) :
    Calls Try.prog 50 #[.pointer (some ⟨L, 0, none⟩), .int .i64 n] w fun e w' => ∃ u, e = .returned u ∧ LogIs w' L (rec + 1) (by_ + lenF n) D nm ∧ Chg (· = L) w w' := by
  have hLl := hL.lt
  have g0 : w.cell? ⟨L, 0, none⟩ = some (.int .i64 rec) := cell_of_row w L 0 _ _ _ hL
  have g1 : w.frozen? ⟨L, 0, none⟩ = false := frozen_of_row w L 0 _ _ hL
  have hL1 : (w.setCell ⟨L, 0, none⟩ (.int .i64 (rec + 1))).heap[L]? = some (.cells #[.int .i64 (rec + 1), .int .i64 by_, .pointer (some ⟨D, 0, none⟩), .string (strB nm)] 87 (0, 0)) := by
    have := heap_setCell_same w L 0 _ _ (.int .i64 (rec + 1)) hL
    simpa using this
  have k1 : (w.setCell ⟨L, 0, none⟩ (.int .i64 (rec + 1))).cell? ⟨L, 1, none⟩ = some (.int .i64 by_) := cell_of_row _ L 1 _ _ _ hL1
  have k2 : (w.setCell ⟨L, 0, none⟩ (.int .i64 (rec + 1))).frozen? ⟨L, 1, none⟩ = false := frozen_of_row _ L 1 _ _ hL1
  have hlf : 0 ≤ lenF n ∧ lenF n ≤ 1048584 := by unfold lenF; split <;> omega
  have hw1 : IntKind.i64.wrap (rec + 1) = rec + 1 := IntWalk.i64_in _ (by omega)
  have hw2 : IntKind.i64.wrap (by_ + lenF n) = by_ + lenF n := IntWalk.i64_in _ (by omega)
  have HL1 := Lib.hid hL1
  clear hL1
  go_enter Try.func50, Try.ntmps50
  go_wp2_with fail
  refine wp_region_noPanic ?_
  refine beginT (S := (fun w' => w'.cell? ⟨L, 1, none⟩ = some (.int .i64 by_))) 9 (by kernel_rfl) ?_ (fun hHeld => ?_)
  · exact k1
  refine takeT 0 (some 11) (v := ?_) rfl rfl (by kernel_rfl) (by kernel_rfl) (by kernel_rfl) (by kernel_rfl) (by rfl) hHeld (fun _ _ _ h => h) ?_ ?_
  rotate_left
  · intro w' hSw; (try dsimp only at hSw); go_simp <;> with_reducible rfl
  simp only [Act.put, List.setIfInBounds_toArray, List.set_cons_zero, List.set_cons_succ]
  refine takeT 1 (some 12) (v := ?_) rfl rfl (by kernel_rfl) (by kernel_rfl) (by kernel_rfl) (by kernel_rfl) (by rfl) hHeld (fun _ _ _ h => h) ?_ ?_
  rotate_left
  · intro w' hSw; (try dsimp only at hSw); go_simp <;> with_reducible rfl
  simp only [Act.put, List.setIfInBounds_toArray, List.set_cons_zero, List.set_cons_succ]
  refine takeT 2 (some 13) (v := ?_) rfl rfl (by kernel_rfl) (by kernel_rfl) (by kernel_rfl) (by kernel_rfl) (by rfl) hHeld (fun _ _ _ h => h) ?_ ?_
  rotate_left
  · intro w' hSw; (try dsimp only at hSw); go_simp <;> with_reducible rfl
  simp only [Act.put, List.setIfInBounds_toArray, List.set_cons_zero, List.set_cons_succ]
  refine takeT 3 (some 14) (v := ?_) rfl rfl (by kernel_rfl) (by kernel_rfl) (by kernel_rfl) (by kernel_rfl) (by rfl) hHeld (fun _ _ _ h => h) ?_ ?_
  rotate_left
  · intro w' hSw; (try dsimp only at hSw); go_simp <;> with_reducible rfl
  simp only [Act.put, List.setIfInBounds_toArray, List.set_cons_zero, List.set_cons_succ]
  refine takeT 4 (some 15) (v := ?_) rfl rfl (by kernel_rfl) (by kernel_rfl) (by kernel_rfl) (by kernel_rfl) (by rfl) hHeld (fun _ _ _ h => h) ?_ ?_
  rotate_left
  · intro w' hSw; (try dsimp only at hSw); go_simp <;> with_reducible rfl
  simp only [Act.put, List.setIfInBounds_toArray, List.set_cons_zero, List.set_cons_succ]
  refine callT 5 (some 16) (f := ?_) (args := ?_) rfl rfl (by kernel_rfl) (by rfl) ?_ ?_
  rotate_left 2
  · go_simp <;> first | (constructor <;> with_reducible rfl) | with_reducible rfl
  (with_reducible refine (len_any n _).mono ?_)
  rintro e w2 ⟨rfl, rfl⟩
  refine ⟨_, rfl, keepAnd ?_ (fun hNew => ?_)⟩
  · intro _; exact k1
  have hNew := hNew (by decide)
  clear hHeld
  have hHeld := hNew
  clear hNew
  simp only [Act.put, List.setIfInBounds_toArray, List.set_cons_zero, List.set_cons_succ]
  refine takeT 6 (some 17) (v := ?_) rfl rfl (by kernel_rfl) (by kernel_rfl) (by kernel_rfl) (by kernel_rfl) (by rfl) hHeld (fun _ _ _ h => h) ?_ ?_
  rotate_left
  · intro w' hSw; (try dsimp only at hSw); go_simp <;> with_reducible rfl
  simp only [Act.put, List.setIfInBounds_toArray, List.set_cons_zero, List.set_cons_succ]
  refine runT 7 (some 18) (v := ?_) (w' := _) rfl rfl (by kernel_rfl) (by rfl) ?_ (fun _ => hHeld) ?_
  rotate_left
  · go_simp <;> with_reducible rfl
  simp only [Act.put, List.setIfInBounds_toArray, List.set_cons_zero, List.set_cons_succ]
  refine takeT 8 (some 19) (v := ?_) rfl rfl (by kernel_rfl) (by kernel_rfl) (by kernel_rfl) (by kernel_rfl) (by rfl) hHeld (fun _ _ _ h => h) ?_ ?_
  rotate_left
  · intro w' hSw; (try dsimp only at hSw); go_simp <;> with_reducible rfl
  simp only [Act.put, List.setIfInBounds_toArray, List.set_cons_zero, List.set_cons_succ]
  refine skipRunT 9 none (w' := (w.setCell ⟨L, 0, none⟩ (.int .i64 (rec + 1))).drew.setCell ⟨L, 1, none⟩ (.int .i64 (by_ + lenF n))) rfl rfl (by kernel_rfl) (by rfl) ?_ (fun h => absurd rfl h) ?_
  · go_simp <;> with_reducible rfl
  clear hHeld
  simp only [Act.put]
  refine doneT (by kernel_rfl) ?_ _
  refine NoPanic.normal ?_
  go_wp2_with fail
  go_end0
  refine ⟨_, rfl, ?_, ?_⟩
  · have := heap_setCell_same (w.setCell ⟨L, 0, none⟩ (.int .i64 (rec + 1))).drew L 1 _ _ (.int .i64 (by_ + lenF n)) HL1.out
    unfold LogIs
    simpa using this
  · exact Chg.setCell (S := (· = L)) (Chg.drew (Chg.setCell (S := (· = L)) (Chg.refl _ w) (.inl rfl) _)) (.inl rfl) _

theorem DatL.elem {B : Nat} {w : World} {A : Option Addr} {c : Nat} {ls : List (List UInt8)} (h : DatL B w (.slice A ls.length c) ls) {k : Nat} {l : List UInt8} (hk : ls[k]? = some l) :
    ∃ b off u, A = some ⟨b, off, none⟩ ∧ w.cell? ⟨b, off + k, none⟩ = some u ∧ DatB B w u l := by
  obtain ⟨vs, hr, hv⟩ := h
  obtain ⟨hlt, _⟩ := List.getElem?_eq_some_iff.1 hk
  have hvl : vs.length = ls.length := by rw [hr.1, Nat.mul_one]
  obtain ⟨b, off, rfl, hF, hc⟩ := Rd.plain hr (by omega) (by omega)
  have hu : vs[k]? = some vs[k] := List.getElem?_eq_getElem (by omega)
  exact ⟨b, off, vs[k], rfl, hc k _ hu, hv k _ l hu hk⟩
theorem DatL.open_ {B : Nat} {w : World} {v : Value} {ls : List (List UInt8)} (h : DatL B w v ls) : ∃ A c, v = .slice A ls.length c ∧ ls.length ≤ c ∧ c ≤ maxLen ∧ (A = none → c = 0) := by
  obtain ⟨vs, hr, hv⟩ := h; exact hr.open_
theorem DatL.below {B : Nat} {w w' : World} {v : Value} {ls : List (List UInt8)} (h : DatL B w v ls) (hB : B ≤ w.heap.size) (hb : Below w.heap.size w w') : DatL B w' v ls :=
  h.chg hB (Chg.of_below hb (fun _ => False)) (fun _ _ h => h) (fun _ _ h => h)

theorem lists_ne {a b : List (List UInt8)} (k : Nat) (hk : k < a.length) (hkb : k < b.length) (h : ¬ a[k] = b[k]) : decide (a = b) = false := by
  rw [decide_eq_false_iff_not]; rintro rfl; exact h rfl
theorem lists_eq {a b : List (List UInt8)} (hl : a.length = b.length) (h : a.take a.length = b.take a.length) : decide (a = b) = true := by
  rw [decide_eq_true_eq]; rwa [List.take_length, hl, List.take_length] at h
theorem take_step {α : Type} {a b : List α} {k : Nat} (h : a.take k = b.take k) (ha : k < a.length) (hb : k < b.length) (e : a[k] = b[k]) : a.take (k + 1) = b.take (k + 1) := by
  rw [List.take_succ_eq_append_getElem ha, List.take_succ_eq_append_getElem hb, h, e]

set_option maxRecDepth 100000 in
set_option maxHeartbeats 2000000 in
theorem lists_any (B : Nat) (va vb : Value) (la lb : List (List UInt8)) (w : World) (hB : B ≤ w.heap.size) (ha : DatL B w va la) (hb : DatL B w vb lb) :
    Calls Try.prog 19 #[va, vb] w fun e w' => e = .returned (.bool (decide (la = lb))) ∧ Below w.heap.size w w' := by
  obtain ⟨Aa, ca, rfl, a1, a2, a3⟩ := ha.open_
  obtain ⟨Ab, cb, rfl, b1, b2, b3⟩ := hb.open_
  unfold maxLen at a2 b2
  generalize hr : decide (la = lb) = r
  have HR := Lib.hid hr
  clear hr a3 b3
  by_cases hl : la.length = lb.length
  · have q1 : ((la.length : Int) != (lb.length : Int)) = false := by simp [hl]
    have HL := Lib.hid hl
    have hll : la.length ≤ lb.length := by omega
    clear hl
    go_enter Try.func19, Try.ntmps19
    go_wp2_with fail
    go_loopw [13] (fun i wr => ∃ k : Nat, k ≤ la.length ∧ i = .int .i64 (k : Int) ∧ la.take k = lb.take k ∧ Below w.heap.size w wr) (fun i _ => la.length - (intOf i).toNat)
    case atStart => exact ⟨0, Nat.zero_le _, rfl, rfl, Below.refl _ _⟩
    case round =>
      obtain ⟨k, hk, rfl, ht, hbw⟩ := hrel
      have HT := Lib.hid ht
      clear ht
      by_cases hlt : k < la.length
      · have hlb : k < lb.length := by omega
        obtain ⟨ba, oa, ua, rfl, ga, da⟩ := DatL.elem (ha.below hB hbw) (List.getElem?_eq_getElem hlt)
        obtain ⟨bb, ob, ub, rfl, gb, db⟩ := DatL.elem (hb.below hB hbw) (List.getElem?_eq_getElem hlb)
        have HNE := Lib.hid (@lists_ne la lb k hlt hlb)
        have HST := Lib.hid (@take_step _ la lb k HT.out hlt hlb)
        have cva := run_bytes_str (DatB.drew da)
        have cvb := run_bytes_str (DatB.drew db)
        obtain ⟨Xa, xa, rfl, _, _, _⟩ := Rd.open_ da
        obtain ⟨Xb, xb, rfl, _, _, _⟩ := Rd.open_ db
        generalize la[k] = xa' at *
        generalize lb[k] = xb' at *
        by_cases he : xa' = xb'
        · subst he
          have hst := HST.out rfl
          have HS2 := Lib.hid hst
          clear hst HST HNE
          have ht2 : ((strB xa').toList == (strB xa').toList) = true := by simp
          go_wp2_with fail
          refine wp_region_noPanic ?_
          refine wp_region_held_drew (S := (fun w' => w' = wr.drew)) (by kernel_rfl) ?_ (fun hHeld => ?_)
          · rfl
          refine heldTake 0 (some 16) (v := ?_) rfl rfl (by kernel_rfl) (by kernel_rfl) (by kernel_rfl) (by rfl) hHeld (fun _ _ _ h => h) ?_ ?_
          rotate_left
          · intro w' hSw; (try dsimp only at hSw); go_simp <;> with_reducible rfl
          simp only [Act.put, List.setIfInBounds_toArray, List.set_cons_zero, List.set_cons_succ]
          refine heldTake 1 (some 17) (v := ?_) rfl rfl (by kernel_rfl) (by kernel_rfl) (by kernel_rfl) (by rfl) hHeld (fun _ _ _ h => h) ?_ ?_
          rotate_left
          · intro w' hSw; (try dsimp only at hSw); go_simp <;> with_reducible rfl
          simp only [Act.put, List.setIfInBounds_toArray, List.set_cons_zero, List.set_cons_succ]
          refine heldTake 2 (some 18) (v := ?_) rfl rfl (by kernel_rfl) (by kernel_rfl) (by kernel_rfl) (by rfl) hHeld (fun _ _ _ h => h) ?_ ?_
          rotate_left
          · intro w' hSw; (try dsimp only at hSw); go_simp <;> with_reducible rfl
          simp only [Act.put, List.setIfInBounds_toArray, List.set_cons_zero, List.set_cons_succ]
          refine heldTake 3 (some 19) (v := ?_) rfl rfl (by kernel_rfl) (by kernel_rfl) (by kernel_rfl) (by rfl) hHeld (fun _ _ _ h => h) ?_ ?_
          rotate_left
          · intro w' hSw; (try dsimp only at hSw); subst hSw; go_simp <;> with_reducible rfl
          simp only [Act.put, List.setIfInBounds_toArray, List.set_cons_zero, List.set_cons_succ]
          refine heldTake 4 (some 20) (v := ?_) rfl rfl (by kernel_rfl) (by kernel_rfl) (by kernel_rfl) (by rfl) hHeld (fun _ _ _ h => h) ?_ ?_
          rotate_left
          · intro w' hSw; (try dsimp only at hSw); subst hSw; go_simp <;> with_reducible rfl
          simp only [Act.put, List.setIfInBounds_toArray, List.set_cons_zero, List.set_cons_succ]
          refine heldTake 5 (some 21) (v := ?_) rfl rfl (by kernel_rfl) (by kernel_rfl) (by kernel_rfl) (by rfl) hHeld (fun _ _ _ h => h) ?_ ?_
          rotate_left
          · intro w' hSw; (try dsimp only at hSw); go_simp <;> with_reducible rfl
          simp only [Act.put, List.setIfInBounds_toArray, List.set_cons_zero, List.set_cons_succ]
          refine heldTake 6 (some 22) (v := ?_) rfl rfl (by kernel_rfl) (by kernel_rfl) (by kernel_rfl) (by rfl) hHeld (fun _ _ _ h => h) ?_ ?_
          rotate_left
          · intro w' hSw; (try dsimp only at hSw); go_simp <;> with_reducible rfl
          simp only [Act.put, List.setIfInBounds_toArray, List.set_cons_zero, List.set_cons_succ]
          refine heldTake 7 (some 23) (v := ?_) rfl rfl (by kernel_rfl) (by kernel_rfl) (by kernel_rfl) (by rfl) hHeld (fun _ _ _ h => h) ?_ ?_
          rotate_left
          · intro w' hSw; (try dsimp only at hSw); go_simp <;> with_reducible rfl
          simp only [Act.put, List.setIfInBounds_toArray, List.set_cons_zero, List.set_cons_succ]
          refine heldTake 8 (some 24) (v := ?_) rfl rfl (by kernel_rfl) (by kernel_rfl) (by kernel_rfl) (by rfl) hHeld (fun _ _ _ h => h) ?_ ?_
          rotate_left
          · intro w' hSw; (try dsimp only at hSw); subst hSw; go_simp <;> with_reducible rfl
          simp only [Act.put, List.setIfInBounds_toArray, List.set_cons_zero, List.set_cons_succ]
          refine heldTake 9 (some 25) (v := ?_) rfl rfl (by kernel_rfl) (by kernel_rfl) (by kernel_rfl) (by rfl) hHeld (fun _ _ _ h => h) ?_ ?_
          rotate_left
          · intro w' hSw; (try dsimp only at hSw); subst hSw; go_simp <;> with_reducible rfl
          simp only [Act.put, List.setIfInBounds_toArray, List.set_cons_zero, List.set_cons_succ]
          refine heldTake 10 (some 26) (v := ?_) rfl rfl (by kernel_rfl) (by kernel_rfl) (by kernel_rfl) (by rfl) hHeld (fun _ _ _ h => h) ?_ ?_
          rotate_left
          · intro w' hSw; (try dsimp only at hSw); go_simp <;> with_reducible rfl
          simp only [Act.put, List.setIfInBounds_toArray, List.set_cons_zero, List.set_cons_succ]
          refine wpAnyH_done (by kernel_rfl) ?_ _
          refine NoPanic.normal ?_
          go_wp2_with fail
          go_roundw
          case rel => exact ⟨k + 1, by omega, by go_num, HS2.out, hbw.drew⟩
          case measure => simp [intOf]; omega
        · have hn2 : ((strB xa').toList == (strB xb').toList) = false := by
            rw [beq_eq_false_iff_ne, ByteArray.toList_eq, ByteArray.toList_eq]; simpa [strB] using he
          have hn3 : (!(strB xa').toList == (strB xb').toList) = true := by rw [hn2]; rfl
          have HF := Lib.hid (HNE.out he)
          clear HNE HST he
          go_wp2_with fail
          refine wp_region_noPanic ?_
          refine wp_region_held_drew (S := (fun w' => w' = wr.drew)) (by kernel_rfl) ?_ (fun hHeld => ?_)
          · rfl
          refine heldTake 0 (some 16) (v := ?_) rfl rfl (by kernel_rfl) (by kernel_rfl) (by kernel_rfl) (by rfl) hHeld (fun _ _ _ h => h) ?_ ?_
          rotate_left
          · intro w' hSw; (try dsimp only at hSw); go_simp <;> with_reducible rfl
          simp only [Act.put, List.setIfInBounds_toArray, List.set_cons_zero, List.set_cons_succ]
          refine heldTake 1 (some 17) (v := ?_) rfl rfl (by kernel_rfl) (by kernel_rfl) (by kernel_rfl) (by rfl) hHeld (fun _ _ _ h => h) ?_ ?_
          rotate_left
          · intro w' hSw; (try dsimp only at hSw); go_simp <;> with_reducible rfl
          simp only [Act.put, List.setIfInBounds_toArray, List.set_cons_zero, List.set_cons_succ]
          refine heldTake 2 (some 18) (v := ?_) rfl rfl (by kernel_rfl) (by kernel_rfl) (by kernel_rfl) (by rfl) hHeld (fun _ _ _ h => h) ?_ ?_
          rotate_left
          · intro w' hSw; (try dsimp only at hSw); go_simp <;> with_reducible rfl
          simp only [Act.put, List.setIfInBounds_toArray, List.set_cons_zero, List.set_cons_succ]
          refine heldTake 3 (some 19) (v := ?_) rfl rfl (by kernel_rfl) (by kernel_rfl) (by kernel_rfl) (by rfl) hHeld (fun _ _ _ h => h) ?_ ?_
          rotate_left
          · intro w' hSw; (try dsimp only at hSw); subst hSw; go_simp <;> with_reducible rfl
          simp only [Act.put, List.setIfInBounds_toArray, List.set_cons_zero, List.set_cons_succ]
          refine heldTake 4 (some 20) (v := ?_) rfl rfl (by kernel_rfl) (by kernel_rfl) (by kernel_rfl) (by rfl) hHeld (fun _ _ _ h => h) ?_ ?_
          rotate_left
          · intro w' hSw; (try dsimp only at hSw); subst hSw; go_simp <;> with_reducible rfl
          simp only [Act.put, List.setIfInBounds_toArray, List.set_cons_zero, List.set_cons_succ]
          refine heldTake 5 (some 21) (v := ?_) rfl rfl (by kernel_rfl) (by kernel_rfl) (by kernel_rfl) (by rfl) hHeld (fun _ _ _ h => h) ?_ ?_
          rotate_left
          · intro w' hSw; (try dsimp only at hSw); go_simp <;> with_reducible rfl
          simp only [Act.put, List.setIfInBounds_toArray, List.set_cons_zero, List.set_cons_succ]
          refine heldTake 6 (some 22) (v := ?_) rfl rfl (by kernel_rfl) (by kernel_rfl) (by kernel_rfl) (by rfl) hHeld (fun _ _ _ h => h) ?_ ?_
          rotate_left
          · intro w' hSw; (try dsimp only at hSw); go_simp <;> with_reducible rfl
          simp only [Act.put, List.setIfInBounds_toArray, List.set_cons_zero, List.set_cons_succ]
          refine heldTake 7 (some 23) (v := ?_) rfl rfl (by kernel_rfl) (by kernel_rfl) (by kernel_rfl) (by rfl) hHeld (fun _ _ _ h => h) ?_ ?_
          rotate_left
          · intro w' hSw; (try dsimp only at hSw); go_simp <;> with_reducible rfl
          simp only [Act.put, List.setIfInBounds_toArray, List.set_cons_zero, List.set_cons_succ]
          refine heldTake 8 (some 24) (v := ?_) rfl rfl (by kernel_rfl) (by kernel_rfl) (by kernel_rfl) (by rfl) hHeld (fun _ _ _ h => h) ?_ ?_
          rotate_left
          · intro w' hSw; (try dsimp only at hSw); subst hSw; go_simp <;> with_reducible rfl
          simp only [Act.put, List.setIfInBounds_toArray, List.set_cons_zero, List.set_cons_succ]
          refine heldTake 9 (some 25) (v := ?_) rfl rfl (by kernel_rfl) (by kernel_rfl) (by kernel_rfl) (by rfl) hHeld (fun _ _ _ h => h) ?_ ?_
          rotate_left
          · intro w' hSw; (try dsimp only at hSw); subst hSw; go_simp <;> with_reducible rfl
          simp only [Act.put, List.setIfInBounds_toArray, List.set_cons_zero, List.set_cons_succ]
          refine heldTake 10 (some 26) (v := ?_) rfl rfl (by kernel_rfl) (by kernel_rfl) (by kernel_rfl) (by rfl) hHeld (fun _ _ _ h => h) ?_ ?_
          rotate_left
          · intro w' hSw; (try dsimp only at hSw); go_simp <;> with_reducible rfl
          simp only [Act.put, List.setIfInBounds_toArray, List.set_cons_zero, List.set_cons_succ]
          refine wpAnyH_done (by kernel_rfl) ?_ _
          refine NoPanic.normal ?_
          go_wp2_with fail
          go_ret
          exact ⟨by rw [← HR.out, HF.out]; rfl, hbw.drew⟩
      · have hke : k = la.length := by omega
        have HK := Lib.hid hke
        clear hke
        go_wp2_with fail
        go_ret
        refine ⟨?_, hbw⟩
        have := HT.out
        rw [HK.out] at this
        rw [← HR.out, lists_eq HL.out this]
        rfl
  · have q1 : ((la.length : Int) != (lb.length : Int)) = true := by simp; omega
    have hne : decide (la = lb) = false := by rw [decide_eq_false_iff_not]; rintro rfl; exact hl rfl
    have HN := Lib.hid hne
    clear hne hl
    go_enter Try.func19, Try.ntmps19
    go_wp2_with fail
    go_ret
    exact ⟨by rw [← HR.out, HN.out]; rfl, Below.refl _ _⟩

/-- what a record appended leaves -/
def WApp (B Z D L : Nat) (P : Option Nat) (fm : FM) (os : List DOp) (nm : List UInt8) (rec by_ : Int) (w0 : World) (e : Ending) (w : World) : Prop :=
  e = .returned (.int .i64 0) ∧ ∃ P', DiskAt B Z w D P' fm os ∧ (P' = P ∨ ∃ p, P' = some p ∧ w0.heap.size ≤ p) ∧ LogIs w L rec by_ D nm ∧ Chg (fun b => b = D ∨ b = L ∨ some b = P) w0 w
theorem frm_len (l : List UInt8) : (frm l).length = l.length + 8 := by simp [frm, be4_length]; omega

set_option maxRecDepth 100000 in
set_option maxHeartbeats 2000000 in
theorem wappend_ok (B Z D L : Nat) (P : Option Nat) (fm : FM) (os : List DOp) (nm : List UInt8) (rec by_ : Int) (v : Value) (body : List UInt8) (w : World) (hB : B ≤ w.heap.size) (hD : DiskAt B Z w D P fm os) (hL : LogIs w L rec by_ D nm) (hBL : B ≤ L) (hw : wordF nm = true)
    (hv : RdB w (· < w.heap.size) v body) (hbl : body.length ≤ 1048576) (hZ : Z ≤ 1099511627776) (h1 : 0 ≤ rec) (h2 : rec ≤ 1099511627776) (h3 : 0 ≤ by_) (h4 : by_ ≤ 1099511627776) :
    Calls Try.prog 16 #[.pointer (some ⟨L, 0, none⟩), v] w (WApp B (Z + body.length + 9) D L P fm (os ++ [⟨0, nm, [], frm body⟩]) nm (rec + 1) (by_ + body.length + 8) w) := by
  have CF := Lib.hid (frAppend_any v body w hv hbl)
  have hfl : (frm body).length ≤ 1099511627776 := by rw [frm_len]; omega
  have HFL := Lib.hid (frm_len body)
  have HLN : Hid (lenF (body.length : Int) = body.length + 8) := Lib.hid (by unfold lenF; rw [if_neg (by omega)])
  have hLl := hL.lt
  obtain ⟨A, c, rfl, c1, c2, c3⟩ := hv.open_
  clear c3
  go_enter Try.func16, Try.ntmps16
  go_wp2_with fail
  (with_reducible refine CF.out.mono ?_)
  rintro e w1 ⟨f, rfl, hOf, hb1⟩
  have hL1 := hL.below hb1
  have k2 : w1.cell? ⟨L, 2, none⟩ = some (.pointer (some ⟨D, 0, none⟩)) := cell_of_row w1 L 2 _ _ _ hL1
  have k3 : w1.cell? ⟨L, 3, none⟩ = some (.string (strB nm)) := cell_of_row w1 L 3 _ _ _ hL1
  have hD1 := hD.below hB hb1
  have hnl : ¬ (L = D ∨ some L = P) := hD1.not_log hL1 (by decide) (by decide)
  have HK2 : Hid (∀ w2 : World, Chg (fun b => b = D ∨ some b = P) w1.drew w2 → w2.cell? ⟨L, 2, none⟩ = some (.pointer (some ⟨D, 0, none⟩)) ∧ w2.cell? ⟨L, 3, none⟩ = some (.string (strB nm))) := by
    refine Lib.hid fun w2 hc => ?_
    have h := LogIs.chg (w := w1.drew) hL1 hc hnl
    exact ⟨cell_of_row w2 L 2 _ _ _ h, cell_of_row w2 L 3 _ _ _ h⟩
  go_wp2_with fail
  refine wp_region_noPanic ?_
  refine wp_region_held_drew (S := (fun w' => w'.cell? ⟨L, 2, none⟩ = some (.pointer (some ⟨D, 0, none⟩)) ∧ w'.cell? ⟨L, 3, none⟩ = some (.string (strB nm)))) (by kernel_rfl) ?_ (fun hHeld => ?_)
  · exact ⟨k2, k3⟩
  refine heldTake 0 (some 17) (v := ?_) rfl rfl (by kernel_rfl) (by kernel_rfl) (by kernel_rfl) (by rfl) hHeld (fun _ _ _ h => h) ?_ ?_
  rotate_left
  · intro w' hSw; (try dsimp only at hSw); go_simp <;> with_reducible rfl
  simp only [Act.put, List.setIfInBounds_toArray, List.set_cons_zero, List.set_cons_succ]
  refine heldTake 1 (some 18) (v := ?_) rfl rfl (by kernel_rfl) (by kernel_rfl) (by kernel_rfl) (by rfl) hHeld (fun _ _ _ h => h) ?_ ?_
  rotate_left
  · intro w' hSw; (try dsimp only at hSw); go_simp <;> with_reducible rfl
  simp only [Act.put, List.setIfInBounds_toArray, List.set_cons_zero, List.set_cons_succ]
  refine heldTake 2 (some 19) (v := ?_) rfl rfl (by kernel_rfl) (by kernel_rfl) (by kernel_rfl) (by rfl) hHeld (fun _ _ _ h => h) ?_ ?_
  rotate_left
  · intro w' hSw; (try dsimp only at hSw); go_simp <;> with_reducible rfl
  simp only [Act.put, List.setIfInBounds_toArray, List.set_cons_zero, List.set_cons_succ]
  refine heldTake 3 (some 20) (v := ?_) rfl rfl (by kernel_rfl) (by kernel_rfl) (by kernel_rfl) (by rfl) hHeld (fun _ _ _ h => h) ?_ ?_
  rotate_left
  · intro w' hSw; (try dsimp only at hSw); obtain ⟨s1, s2⟩ := hSw; go_simp <;> with_reducible rfl
  simp only [Act.put, List.setIfInBounds_toArray, List.set_cons_zero, List.set_cons_succ]
  refine heldTake 4 (some 21) (v := ?_) rfl rfl (by kernel_rfl) (by kernel_rfl) (by kernel_rfl) (by rfl) hHeld (fun _ _ _ h => h) ?_ ?_
  rotate_left
  · intro w' hSw; (try dsimp only at hSw); go_simp <;> with_reducible rfl
  simp only [Act.put, List.setIfInBounds_toArray, List.set_cons_zero, List.set_cons_succ]
  refine heldTake 5 (some 22) (v := ?_) rfl rfl (by kernel_rfl) (by kernel_rfl) (by kernel_rfl) (by rfl) hHeld (fun _ _ _ h => h) ?_ ?_
  rotate_left
  · intro w' hSw; (try dsimp only at hSw); go_simp <;> with_reducible rfl
  simp only [Act.put, List.setIfInBounds_toArray, List.set_cons_zero, List.set_cons_succ]
  refine heldTake 6 (some 23) (v := ?_) rfl rfl (by kernel_rfl) (by kernel_rfl) (by kernel_rfl) (by rfl) hHeld (fun _ _ _ h => h) ?_ ?_
  rotate_left
  · intro w' hSw; (try dsimp only at hSw); go_simp <;> with_reducible rfl
  simp only [Act.put, List.setIfInBounds_toArray, List.set_cons_zero, List.set_cons_succ]
  refine heldTake 7 (some 24) (v := ?_) rfl rfl (by kernel_rfl) (by kernel_rfl) (by kernel_rfl) (by rfl) hHeld (fun _ _ _ h => h) ?_ ?_
  rotate_left
  · intro w' hSw; (try dsimp only at hSw); obtain ⟨s1, s2⟩ := hSw; go_simp <;> with_reducible rfl
  simp only [Act.put, List.setIfInBounds_toArray, List.set_cons_zero, List.set_cons_succ]
  refine heldTake 8 (some 25) (v := ?_) rfl rfl (by kernel_rfl) (by kernel_rfl) (by kernel_rfl) (by rfl) hHeld (fun _ _ _ h => h) ?_ ?_
  rotate_left
  · intro w' hSw; (try dsimp only at hSw); go_simp <;> with_reducible rfl
  simp only [Act.put, List.setIfInBounds_toArray, List.set_cons_zero, List.set_cons_succ]
  refine heldCall 9 (some 26) (f := ?_) (args := ?_) rfl rfl (by kernel_rfl) (by rfl) ?_ ?_
  rotate_left 2
  · go_simp <;> first | (constructor <;> with_reducible rfl) | with_reducible rfl
  (with_reducible refine (dappend_ok B Z D P fm os nm f (frm body) _ ?_ ?_ hw ?_ hfl hZ).mono ?_)
  · have := hb1.size; simp; omega
  · exact (hD.below hB hb1).drew
  · exact Rd.drew hOf.rd
  rintro e w2 ⟨rfl, P2, hD2, hP2, hC2⟩
  refine ⟨_, rfl, keepAnd ?_ (fun hNew => ?_)⟩
  · exact HK2.out w2 hC2
  clear hHeld
  have hHeld := hNew
  clear hNew
  simp only [Act.put, List.setIfInBounds_toArray, List.set_cons_zero, List.set_cons_succ]
  refine wpAnyH_done (by kernel_rfl) ?_ _
  refine NoPanic.normal ?_
  go_wp2_with fail
  have hL2 : LogIs w2 L rec by_ D nm := LogIs.chg (w := w1.drew) hL1 hC2 hnl
  (with_reducible refine (count_any L D rec by_ _ nm _ hL2 h1 h2 h3 h4).mono ?_)
  rintro e w3 ⟨u, rfl, hL3, hC3⟩
  go_wp2_with fail
  go_ret
  have hB2 : B ≤ w2.heap.size := by have := hC2.size; have := hb1.size; simp at *; omega
  rw [HLN.out, ← Int.add_assoc] at hL3
  refine ⟨rfl, P2, ?_, ?_, hL3, ?_⟩
  · have := hD2.keep hB2 hC3 (fun b hb => by subst hb; exact ⟨hBL, hL2.nk⟩)
    rw [HFL.out] at this
    exact this
  · rcases hP2 with h | ⟨p, h, hp⟩
    · exact .inl h
    · exact .inr ⟨p, h, by have := hb1.size; simp at hp; omega⟩
  · refine ((Chg.of_below hb1 _).trans (T := fun b => b = D ∨ some b = P) ⟨hC2.os, hC2.tape, hC2.output, hC2.size, hC2.block⟩ ?_).trans hC3 ?_
    · rintro i _ (h | h)
      · exact .inl h
      · exact .inr (.inr h)
    · rintro i _ h; exact .inr (.inl h)

set_option maxHeartbeats 1000000 in
theorem wappend_long (L : Nat) (v : Value) (body : List UInt8) (F : Nat → Prop) (w : World) (hv : RdB w F v body) (hbl : ¬ body.length ≤ 1048576) :
    Calls Try.prog 16 #[.pointer (some ⟨L, 0, none⟩), v] w fun e w' => e = .returned (.int .i64 5) ∧ w = w' := by
  have CF := Lib.hid (frAppend_long (.slice none 0 0) v body F w hv hbl)
  go_enter Try.func16, Try.ntmps16
  go_wp2_with fail
  (with_reducible refine CF.out.mono ?_)
  rintro e w1 ⟨rfl, rfl⟩
  go_wp2_with fail
  go_ret
  exact ⟨rfl, rfl⟩

set_option maxHeartbeats 1000000 in
theorem wsync_any (B Z D L : Nat) (P : Option Nat) (fm : FM) (os : List DOp) (nm : List UInt8) (rec by_ : Int) (w : World) (hB : B ≤ w.heap.size) (hD : DiskAt B Z w D P fm os) (hL : LogIs w L rec by_ D nm) (hZ : Z ≤ 1099511627776) :
    Calls Try.prog 15 #[.pointer (some ⟨L, 0, none⟩)] w (DSync B Z D (viewF fm os) w) := by
  have CS := Lib.hid (dsync_any B Z D fm os w hB hD.rd hZ)
  have k2 : w.cell? ⟨L, 2, none⟩ = some (.pointer (some ⟨D, 0, none⟩)) := cell_of_row w L 2 _ _ _ hL
  go_enter Try.func15, Try.ntmps15
  go_wp2_with fail
  (with_reducible refine CS.out.mono ?_)
  rintro e w1 ⟨u, rfl, h1, h2⟩
  go_wp2_with fail
  go_end0
  exact ⟨_, rfl, h1, h2⟩

set_option maxHeartbeats 1000000 in
theorem wlen_any (L D : Nat) (nm : List UInt8) (rec by_ : Int) (w : World) (hL : LogIs w L rec by_ D nm) :
    Calls Try.prog 20 #[.pointer (some ⟨L, 0, none⟩)] w fun e w' => e = .returned (.int .i64 rec) ∧ w = w' := by
  have k2 : w.cell? ⟨L, 0, none⟩ = some (.int .i64 rec) := cell_of_row w L 0 _ _ _ hL
  go_enter Try.func20, Try.ntmps20
  go_wp2_with fail
  go_ret
  exact ⟨rfl, rfl⟩

set_option maxHeartbeats 1000000 in
theorem wsize_any (L D : Nat) (nm : List UInt8) (rec by_ : Int) (w : World) (hL : LogIs w L rec by_ D nm) :
    Calls Try.prog 37 #[.pointer (some ⟨L, 0, none⟩)] w fun e w' => e = .returned (.int .i64 by_) ∧ w = w' := by
  have k2 : w.cell? ⟨L, 1, none⟩ = some (.int .i64 by_) := cell_of_row w L 1 _ _ _ hL
  go_enter Try.func37, Try.ntmps37
  go_wp2_with fail
  go_ret
  exact ⟨rfl, rfl⟩

set_option maxHeartbeats 1000000 in
theorem wname_any (L D : Nat) (nm : List UInt8) (rec by_ : Int) (w : World) (hL : LogIs w L rec by_ D nm) :
    Calls Try.prog 38 #[.pointer (some ⟨L, 0, none⟩)] w fun e w' => e = .returned (.string (strB nm)) ∧ w = w' := by
  have k2 : w.cell? ⟨L, 3, none⟩ = some (.string (strB nm)) := cell_of_row w L 3 _ _ _ hL
  go_enter Try.func38, Try.ntmps38
  go_wp2_with fail
  go_ret
  exact ⟨rfl, rfl⟩
end Go.Proofs.Ytooojgokkigncaa
