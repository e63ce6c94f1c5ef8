/-
  Lists of numbers and of items, read and compared.
-/
import Derived.Test.YtkocehfapcmiiaaTreeK
namespace Go.Proofs.Ytkocehfapcmiiaa
open Go.RowKit Go.Lib Go.IntWalk

/-- a block that the input has, or a row of items -/
def CR (B : Nat) (w : World) (b : Nat) : Prop := b < B ∨ ∃ cs, w.heap[b]? = some (.cells cs 30 (0, 0))
def DatIt (B : Nat) (w : World) (v : Value) (l : List It) : Prop := Rd w (CR B w) 3 v l.length (icv l)
theorem DatIt.chg {B : Nat} {w w' : World} {S : Nat → Prop} {v : Value} {l : List It} (h : DatIt B w v l) (hB : B ≤ w.heap.size) (hc : Chg S w w') (hs : ∀ b, CR B w b → ¬ S b) : DatIt B w' v l := by
  have hk : ∀ b, CR B w b → w'.heap[b]? = w.heap[b]? := by
    intro b hb
    refine hc.block b ?_ (hs b hb)
    rcases hb with hb | ⟨cs, hb⟩
    · omega
    · exact (Array.getElem?_eq_some_iff.1 hb).1
  refine (Rd.keep h hk).wide ?_
  intro b hb
  have := hk b hb
  rcases hb with hb | ⟨cs, hb⟩
  · exact .inl hb
  · exact .inr ⟨cs, this.trans hb⟩
theorem DatIt.below {B : Nat} {w w' : World} {v : Value} {l : List It} (h : DatIt B w v l) (hB : B ≤ w.heap.size) (hb : Below w.heap.size w w') : DatIt B w' v l := h.chg hB (Chg.of_below hb None_) (fun _ _ h => h)
theorem DatIt.of_own {B base : Nat} {w : World} {v : Value} {l : List It} (h : OwnIt w base v l) : DatIt B w v l := by
  refine ⟨h.1, ?_⟩
  rcases h.2 with ⟨rfl, h0⟩ | ⟨g, cap, cur, rfl, hb, hg, hnc, hcm, hcs, htake⟩
  · rw [h0]
    exact ⟨none, 0, rfl, Nat.le_refl _, Nat.zero_le _, fun _ => rfl, fun h => absurd h (by omega)⟩
  · exact ⟨_, cap, rfl, hnc, hcm, fun h => (Option.some_ne_none _ h).elim, fun _ => ⟨_, rfl, .inr ⟨cur, hg⟩, World.ownsRow.cells (g := g) h rfl⟩⟩
theorem DatIt.nil (B : Nat) (w : World) : DatIt B w (.slice none 0 0) [] := Rd.nil _ _ _
theorem DatIt.open_ {B : Nat} {w : World} {v : Value} {l : List It} (h : DatIt B w v l) : ∃ A c, v = .slice A l.length c ∧ l.length ≤ c ∧ c ≤ maxLen ∧ (A = none → c = 0) := Rd.open_ h
theorem icv_get (l : List It) (k : Nat) (x : It) (hk : l[k]? = some x) : (icv l)[k * 3]? = some (.int .i64 x.fr) ∧ (icv l)[k * 3 + 1]? = some (.int .i64 x.to) ∧ (icv l)[k * 3 + 2]? = some (.int .i64 x.id) := by
  induction l generalizing k with
  | nil => simp at hk
  | cons a r ih =>
    rw [show icv (a :: r) = itC a ++ icv r from rfl]
    cases k with
    | zero =>
      simp only [List.getElem?_cons_zero, Option.some.injEq] at hk
      subst hk
      exact ⟨rfl, rfl, rfl⟩
    | succ k =>
      simp only [List.getElem?_cons_succ] at hk
      obtain ⟨h0, h1, h2⟩ := ih k hk
      have hl : (itC a).length = 3 := rfl
      refine ⟨?_, ?_, ?_⟩
      · rw [List.getElem?_append_right (by omega), hl, show (k + 1) * 3 - 3 = k * 3 by omega]; exact h0
      · rw [List.getElem?_append_right (by omega), hl, show (k + 1) * 3 + 1 - 3 = k * 3 + 1 by omega]; exact h1
      · rw [List.getElem?_append_right (by omega), hl, show (k + 1) * 3 + 2 - 3 = k * 3 + 2 by omega]; exact h2
theorem RdIt.elem {w : World} {F : Nat → Prop} {A : Option Addr} {c : Nat} {l : List It} (h : Rd w F 3 (.slice A l.length c) l.length (icv l)) {k : Nat} {x : It} (hk : l[k]? = some x) :
    ∃ b off, A = some ⟨b, off, none⟩ ∧ F b ∧ w.cell? ⟨b, off + k * 3, none⟩ = some (.int .i64 x.fr) ∧ w.cell? ⟨b, off + k * 3 + 1, none⟩ = some (.int .i64 x.to) ∧ w.cell? ⟨b, off + k * 3 + 2, none⟩ = some (.int .i64 x.id) := by
  obtain ⟨hlt, _⟩ := List.getElem?_eq_some_iff.1 hk
  obtain ⟨b, off, rfl, hF, hc⟩ := Rd.plain h (by omega) (by omega)
  obtain ⟨h0, h1, h2⟩ := icv_get l k x hk
  refine ⟨b, off, rfl, hF, hc _ _ h0, ?_, ?_⟩
  · have := hc _ _ h1; rwa [← Nat.add_assoc] at this
  · have := hc _ _ h2; rwa [← Nat.add_assoc] at this
theorem RdI.elem {w : World} {F : Nat → Prop} {A : Option Addr} {c : Nat} {l : List Int} (h : Rd w F 1 (.slice A l.length c) l.length (iv l)) {k : Nat} {x : Int} (hk : l[k]? = some x) :
    ∃ b off, A = some ⟨b, off, none⟩ ∧ F b ∧ w.cell? ⟨b, off + k, none⟩ = some (.int .i64 x) := by
  obtain ⟨hlt, _⟩ := List.getElem?_eq_some_iff.1 hk
  obtain ⟨b, off, rfl, hF, hc⟩ := Rd.plain h (by omega) (by omega)
  exact ⟨b, off, rfl, hF, hc _ _ (by rw [iv, List.getElem?_map, hk]; rfl)⟩
theorem take_eq {α : Type} {a b : List α} {k : Nat} {x y : α} (h : a.take k = b.take k) (ha : a[k]? = some x) (hb : b[k]? = some y) (e : x = y) : a.take (k + 1) = b.take (k + 1) := by
  obtain ⟨h1, e1⟩ := List.getElem?_eq_some_iff.1 ha
  obtain ⟨h2, e2⟩ := List.getElem?_eq_some_iff.1 hb
  rw [List.take_succ_eq_append_getElem h1, List.take_succ_eq_append_getElem h2, h, e1, e2, e]
theorem get_ne {α : Type} {a b : List α} {k : Nat} {x y : α} (ha : a[k]? = some x) (hb : b[k]? = some y) (e : x ≠ y) : a ≠ b := fun h => by rw [h, hb] at ha; injection ha with ha; exact e ha.symm

set_option maxRecDepth 100000 in
set_option maxHeartbeats 2000000 in
theorem ints_any (FA FB : Nat → Prop) (va vb : Value) (la lb : List Int) (w : World) (ha : Rd w FA 1 va la.length (iv la)) (hb : Rd w FB 1 vb lb.length (iv lb)) (hFA : ∀ b, FA b → b < w.heap.size) (hFB : ∀ b, FB b → b < w.heap.size) :
    Calls Try.prog 16 #[va, vb] w fun e w' => e = .returned (.bool (decide (la = lb))) ∧ Below w.heap.size w w' := by
  obtain ⟨Aa, ca, rfl, x1, x2, x3⟩ := ha.open_
  obtain ⟨Ab, cb, rfl, y1, y2, y3⟩ := hb.open_
  have HX3 := Lib.hid x3
  have HY3 := Lib.hid y3
  unfold maxLen at x2 y2
  clear x3 y3
  by_cases hlen : la.length = lb.length
  case neg =>
    have hd : decide (la = lb) = false := decide_eq_false (fun e => hlen (by rw [e]))
    rw [hd]
    clear hd
    have hn : ((la.length : Int) == (lb.length : Int)) = false := by rw [beq_eq_false_iff_ne]; omega
    have hn' : ((la.length : Int) != (lb.length : Int)) = true := by rw [bne_iff_ne]; omega
    go_enter Try.func16, Try.ntmps16
    go_wp2_with fail
    go_ret
    exact ⟨rfl, Below.refl _ _⟩
  case pos =>
  generalize hres : decide (la = lb) = res
  have HR := Lib.hid hres
  clear hres
  have HL := Lib.hid hlen
  have hq : ((la.length : Int) != (lb.length : Int)) = false := by rw [bne_eq_false_iff_eq]; omega
  clear hlen
  go_enter Try.func16, Try.ntmps16
  go_wp2_with fail
  clear hq
  go_loopw [13] (fun i wr => ∃ k : Nat, k ≤ la.length ∧ i = .int .i64 (k : Int) ∧ la.take k = lb.take k ∧ Below w.heap.size w wr) (fun i _ => la.length - (intOf i).toNat)
  case atStart => exact ⟨0, Nat.zero_le _, rfl, rfl, Below.refl _ _⟩
  case round =>
    obtain ⟨k, hk, rfl, htk, hbw⟩ := hrel
    have HTK := Lib.hid htk
    clear htk
    have hsw := hbw.size
    have hll := HL.out
    by_cases hlt : k < la.length
    · have hga : la[k]? = some la[k] := List.getElem?_eq_getElem hlt
      have hlt2 : k < lb.length := by omega
      have hgb : lb[k]? = some lb[k] := List.getElem?_eq_getElem hlt2
      obtain ⟨ba, oa, rfl, _, a0⟩ := RdI.elem (Rd.keep ha (fun b hb => hbw.block b (hFA b hb))) hga
      obtain ⟨bb, ob, rfl, _, b0⟩ := RdI.elem (Rd.keep hb (fun b hb => hbw.block b (hFB b hb))) hgb
      have hba : ba < wr.heap.size := World.block_lt_of_cell? _ _ a0
      have hbb : bb < wr.heap.size := World.block_lt_of_cell? _ _ b0
      have HGA := Lib.hid hga
      have HGB := Lib.hid hgb
      clear hll hga hgb
      generalize la[k] = x at *
      generalize lb[k] = y at *
      by_cases hne : x = y
      · have HST := Lib.hid (take_eq HTK.out HGA.out HGB.out hne)
        subst hne
        go_wp2_with fail
        refine wp_region_noPanic ?_
        refine wp_region_held_drew (S := (fun w' => Below wr.heap.size wr w')) (by kernel_rfl) ?_ (fun hHeld => ?_)
        · exact (Below.refl _ _).drew
        refine heldTake 0 (some 16) (v := ?_) rfl rfl (by kernel_rfl) (by kernel_rfl) (by kernel_rfl) (by rfl) hHeld (fun _ _ _ h => h) ?_ ?_
        rotate_left
        · intro w' hSw; (try dsimp only at hSw); go_simp <;> with_reducible rfl
        simp only [Act.put, List.setIfInBounds_toArray, List.set_cons_zero, List.set_cons_succ]
        refine heldTake 1 (some 17) (v := ?_) rfl rfl (by kernel_rfl) (by kernel_rfl) (by kernel_rfl) (by rfl) hHeld (fun _ _ _ h => h) ?_ ?_
        rotate_left
        · intro w' hSw; (try dsimp only at hSw); go_simp <;> with_reducible rfl
        simp only [Act.put, List.setIfInBounds_toArray, List.set_cons_zero, List.set_cons_succ]
        refine heldTake 2 (some 18) (v := ?_) rfl rfl (by kernel_rfl) (by kernel_rfl) (by kernel_rfl) (by rfl) hHeld (fun _ _ _ h => h) ?_ ?_
        rotate_left
        · intro w' hSw; (try dsimp only at hSw); go_simp <;> with_reducible rfl
        simp only [Act.put, List.setIfInBounds_toArray, List.set_cons_zero, List.set_cons_succ]
        refine heldTake 3 (some 19) (v := ?_) rfl rfl (by kernel_rfl) (by kernel_rfl) (by kernel_rfl) (by rfl) hHeld (fun _ _ _ h => h) ?_ ?_
        rotate_left
        · intro w' hSw; (try dsimp only at hSw); have q0 := (World.cell?_of_block (w := wr) (a := ⟨ba, oa + k, none⟩) (hSw.block ba hba)).trans a0; go_simp <;> with_reducible rfl
        simp only [Act.put, List.setIfInBounds_toArray, List.set_cons_zero, List.set_cons_succ]
        refine heldTake 4 (some 20) (v := ?_) rfl rfl (by kernel_rfl) (by kernel_rfl) (by kernel_rfl) (by rfl) hHeld (fun _ _ _ h => h) ?_ ?_
        rotate_left
        · intro w' hSw; (try dsimp only at hSw); go_simp <;> with_reducible rfl
        simp only [Act.put, List.setIfInBounds_toArray, List.set_cons_zero, List.set_cons_succ]
        refine heldTake 5 (some 21) (v := ?_) rfl rfl (by kernel_rfl) (by kernel_rfl) (by kernel_rfl) (by rfl) hHeld (fun _ _ _ h => h) ?_ ?_
        rotate_left
        · intro w' hSw; (try dsimp only at hSw); go_simp <;> with_reducible rfl
        simp only [Act.put, List.setIfInBounds_toArray, List.set_cons_zero, List.set_cons_succ]
        refine heldTake 6 (some 22) (v := ?_) rfl rfl (by kernel_rfl) (by kernel_rfl) (by kernel_rfl) (by rfl) hHeld (fun _ _ _ h => h) ?_ ?_
        rotate_left
        · intro w' hSw; (try dsimp only at hSw); go_simp <;> with_reducible rfl
        simp only [Act.put, List.setIfInBounds_toArray, List.set_cons_zero, List.set_cons_succ]
        refine heldTake 7 (some 23) (v := ?_) rfl rfl (by kernel_rfl) (by kernel_rfl) (by kernel_rfl) (by rfl) hHeld (fun _ _ _ h => h) ?_ ?_
        rotate_left
        · intro w' hSw; (try dsimp only at hSw); have q0 := (World.cell?_of_block (w := wr) (a := ⟨bb, ob + k, none⟩) (hSw.block bb hbb)).trans b0; go_simp <;> with_reducible rfl
        simp only [Act.put, List.setIfInBounds_toArray, List.set_cons_zero, List.set_cons_succ]
        refine heldTake 8 (some 24) (v := ?_) rfl rfl (by kernel_rfl) (by kernel_rfl) (by kernel_rfl) (by rfl) hHeld (fun _ _ _ h => h) ?_ ?_
        rotate_left
        · intro w' hSw; (try dsimp only at hSw); go_simp <;> with_reducible rfl
        simp only [Act.put, List.setIfInBounds_toArray, List.set_cons_zero, List.set_cons_succ]
        refine wpAnyH_done (by kernel_rfl) ?_ _
        refine NoPanic.normal ?_
        go_wp2_with fail
        go_roundw
        case rel => exact ⟨k + 1, by omega, by go_num, HST.out, hbw.drew⟩
        case measure => simp [intOf]; omega
      · have HD := Lib.hid (show res = false by rw [← HR.out]; exact decide_eq_false (get_ne HGA.out HGB.out hne))
        have n1 : (x == y) = false := by rw [beq_eq_false_iff_ne]; exact hne
        have n2 : (x != y) = true := by rw [bne_iff_ne]; exact hne
        go_wp2_with fail
        refine wp_region_noPanic ?_
        refine wp_region_held_drew (S := (fun w' => Below wr.heap.size wr w')) (by kernel_rfl) ?_ (fun hHeld => ?_)
        · exact (Below.refl _ _).drew
        refine heldTake 0 (some 16) (v := ?_) rfl rfl (by kernel_rfl) (by kernel_rfl) (by kernel_rfl) (by rfl) hHeld (fun _ _ _ h => h) ?_ ?_
        rotate_left
        · intro w' hSw; (try dsimp only at hSw); go_simp <;> with_reducible rfl
        simp only [Act.put, List.setIfInBounds_toArray, List.set_cons_zero, List.set_cons_succ]
        refine heldTake 1 (some 17) (v := ?_) rfl rfl (by kernel_rfl) (by kernel_rfl) (by kernel_rfl) (by rfl) hHeld (fun _ _ _ h => h) ?_ ?_
        rotate_left
        · intro w' hSw; (try dsimp only at hSw); go_simp <;> with_reducible rfl
        simp only [Act.put, List.setIfInBounds_toArray, List.set_cons_zero, List.set_cons_succ]
        refine heldTake 2 (some 18) (v := ?_) rfl rfl (by kernel_rfl) (by kernel_rfl) (by kernel_rfl) (by rfl) hHeld (fun _ _ _ h => h) ?_ ?_
        rotate_left
        · intro w' hSw; (try dsimp only at hSw); go_simp <;> with_reducible rfl
        simp only [Act.put, List.setIfInBounds_toArray, List.set_cons_zero, List.set_cons_succ]
        refine heldTake 3 (some 19) (v := ?_) rfl rfl (by kernel_rfl) (by kernel_rfl) (by kernel_rfl) (by rfl) hHeld (fun _ _ _ h => h) ?_ ?_
        rotate_left
        · intro w' hSw; (try dsimp only at hSw); have q0 := (World.cell?_of_block (w := wr) (a := ⟨ba, oa + k, none⟩) (hSw.block ba hba)).trans a0; go_simp <;> with_reducible rfl
        simp only [Act.put, List.setIfInBounds_toArray, List.set_cons_zero, List.set_cons_succ]
        refine heldTake 4 (some 20) (v := ?_) rfl rfl (by kernel_rfl) (by kernel_rfl) (by kernel_rfl) (by rfl) hHeld (fun _ _ _ h => h) ?_ ?_
        rotate_left
        · intro w' hSw; (try dsimp only at hSw); go_simp <;> with_reducible rfl
        simp only [Act.put, List.setIfInBounds_toArray, List.set_cons_zero, List.set_cons_succ]
        refine heldTake 5 (some 21) (v := ?_) rfl rfl (by kernel_rfl) (by kernel_rfl) (by kernel_rfl) (by rfl) hHeld (fun _ _ _ h => h) ?_ ?_
        rotate_left
        · intro w' hSw; (try dsimp only at hSw); go_simp <;> with_reducible rfl
        simp only [Act.put, List.setIfInBounds_toArray, List.set_cons_zero, List.set_cons_succ]
        refine heldTake 6 (some 22) (v := ?_) rfl rfl (by kernel_rfl) (by kernel_rfl) (by kernel_rfl) (by rfl) hHeld (fun _ _ _ h => h) ?_ ?_
        rotate_left
        · intro w' hSw; (try dsimp only at hSw); go_simp <;> with_reducible rfl
        simp only [Act.put, List.setIfInBounds_toArray, List.set_cons_zero, List.set_cons_succ]
        refine heldTake 7 (some 23) (v := ?_) rfl rfl (by kernel_rfl) (by kernel_rfl) (by kernel_rfl) (by rfl) hHeld (fun _ _ _ h => h) ?_ ?_
        rotate_left
        · intro w' hSw; (try dsimp only at hSw); have q0 := (World.cell?_of_block (w := wr) (a := ⟨bb, ob + k, none⟩) (hSw.block bb hbb)).trans b0; go_simp <;> with_reducible rfl
        simp only [Act.put, List.setIfInBounds_toArray, List.set_cons_zero, List.set_cons_succ]
        refine heldTake 8 (some 24) (v := ?_) rfl rfl (by kernel_rfl) (by kernel_rfl) (by kernel_rfl) (by rfl) hHeld (fun _ _ _ h => h) ?_ ?_
        rotate_left
        · intro w' hSw; (try dsimp only at hSw); go_simp <;> with_reducible rfl
        simp only [Act.put, List.setIfInBounds_toArray, List.set_cons_zero, List.set_cons_succ]
        refine wpAnyH_done (by kernel_rfl) ?_ _
        refine NoPanic.normal ?_
        go_wp2_with fail
        go_ret
        exact ⟨by rw [HD.out]; rfl, hbw.drew⟩
    · have HD := Lib.hid (show res = true by
        rw [← HR.out]
        refine decide_eq_true ?_
        have := HTK.out
        rwa [List.take_of_length_le (by omega), List.take_of_length_le (by omega)] at this)
      clear hll
      go_wp2_with fail
      go_ret
      exact ⟨by rw [HD.out]; rfl, hbw⟩

set_option maxRecDepth 100000 in
set_option maxHeartbeats 2000000 in
theorem items_any (FA FB : Nat → Prop) (va vb : Value) (la lb : List It) (w : World) (ha : Rd w FA 3 va la.length (icv la)) (hb : Rd w FB 3 vb lb.length (icv lb)) (hFA : ∀ b, FA b → b < w.heap.size) (hFB : ∀ b, FB b → b < w.heap.size) :
    Calls Try.prog 23 #[va, vb] w fun e w' => e = .returned (.bool (decide (la = lb))) ∧ Below w.heap.size w w' := by
  obtain ⟨Aa, ca, rfl, x1, x2, x3⟩ := ha.open_
  obtain ⟨Ab, cb, rfl, y1, y2, y3⟩ := hb.open_
  have HX3 := Lib.hid x3
  have HY3 := Lib.hid y3
  unfold maxLen at x2 y2
  clear x3 y3
  by_cases hlen : la.length = lb.length
  case neg =>
    have hd : decide (la = lb) = false := decide_eq_false (fun e => hlen (by rw [e]))
    rw [hd]
    clear hd
    have hn : ((la.length : Int) == (lb.length : Int)) = false := by rw [beq_eq_false_iff_ne]; omega
    have hn' : ((la.length : Int) != (lb.length : Int)) = true := by rw [bne_iff_ne]; omega
    go_enter Try.func23, Try.ntmps23
    go_wp2_with fail
    go_ret
    exact ⟨rfl, Below.refl _ _⟩
  case pos =>
  generalize hres : decide (la = lb) = res
  have HR := Lib.hid hres
  clear hres
  have HL := Lib.hid hlen
  have hq : ((la.length : Int) != (lb.length : Int)) = false := by rw [bne_eq_false_iff_eq]; omega
  clear hlen
  go_enter Try.func23, Try.ntmps23
  go_wp2_with fail
  clear hq
  go_loopw [13] (fun i wr => ∃ k : Nat, k ≤ la.length ∧ i = .int .i64 (k : Int) ∧ la.take k = lb.take k ∧ Below w.heap.size w wr) (fun i _ => la.length - (intOf i).toNat)
  case atStart => exact ⟨0, Nat.zero_le _, rfl, rfl, Below.refl _ _⟩
  case round =>
    obtain ⟨k, hk, rfl, htk, hbw⟩ := hrel
    have HTK := Lib.hid htk
    clear htk
    have hsw := hbw.size
    have hll := HL.out
    by_cases hlt : k < la.length
    · have hga : la[k]? = some la[k] := List.getElem?_eq_getElem hlt
      have hlt2 : k < lb.length := by omega
      have hgb : lb[k]? = some lb[k] := List.getElem?_eq_getElem hlt2
      obtain ⟨ba, oa, rfl, _, a0, a1, a2⟩ := RdIt.elem (Rd.keep ha (fun b hb => hbw.block b (hFA b hb))) hga
      obtain ⟨bb, ob, rfl, _, b0, b1, b2⟩ := RdIt.elem (Rd.keep hb (fun b hb => hbw.block b (hFB b hb))) hgb
      have hba : ba < wr.heap.size := World.block_lt_of_cell? _ _ a0
      have hbb : bb < wr.heap.size := World.block_lt_of_cell? _ _ b0
      have HGA := Lib.hid hga
      have HGB := Lib.hid hgb
      clear hll hga hgb
      generalize la[k] = x at *
      generalize lb[k] = y at *
      by_cases hne : x = y
      · have HST := Lib.hid (take_eq HTK.out HGA.out HGB.out hne)
        subst hne
        go_wp2_with fail
        refine wp_region_noPanic ?_
        refine wp_region_held_drew (S := (fun w' => Below wr.heap.size wr w')) (by kernel_rfl) ?_ (fun hHeld => ?_)
        · exact (Below.refl _ _).drew
        refine heldTake 0 (some 16) (v := ?_) rfl rfl (by kernel_rfl) (by kernel_rfl) (by kernel_rfl) (by rfl) hHeld (fun _ _ _ h => h) ?_ ?_
        rotate_left
        · intro w' hSw; (try dsimp only at hSw); go_simp <;> with_reducible rfl
        simp only [Act.put, List.setIfInBounds_toArray, List.set_cons_zero, List.set_cons_succ]
        refine heldTake 1 (some 17) (v := ?_) rfl rfl (by kernel_rfl) (by kernel_rfl) (by kernel_rfl) (by rfl) hHeld (fun _ _ _ h => h) ?_ ?_
        rotate_left
        · intro w' hSw; (try dsimp only at hSw); go_simp <;> with_reducible rfl
        simp only [Act.put, List.setIfInBounds_toArray, List.set_cons_zero, List.set_cons_succ]
        refine heldTake 2 (some 18) (v := ?_) rfl rfl (by kernel_rfl) (by kernel_rfl) (by kernel_rfl) (by rfl) hHeld (fun _ _ _ h => h) ?_ ?_
        rotate_left
        · intro w' hSw; (try dsimp only at hSw); go_simp <;> with_reducible rfl
        simp only [Act.put, List.setIfInBounds_toArray, List.set_cons_zero, List.set_cons_succ]
        refine heldTake 3 (some 19) (v := ?_) rfl rfl (by kernel_rfl) (by kernel_rfl) (by kernel_rfl) (by rfl) hHeld (fun _ _ _ h => h) ?_ ?_
        rotate_left
        · intro w' hSw; (try dsimp only at hSw); have q0 := (World.cell?_of_block (w := wr) (a := ⟨ba, oa + k * 3, none⟩) (hSw.block ba hba)).trans a0; have q1 := (World.cell?_of_block (w := wr) (a := ⟨ba, oa + k * 3 + 1, none⟩) (hSw.block ba hba)).trans a1; have q2 := (World.cell?_of_block (w := wr) (a := ⟨ba, oa + k * 3 + 2, none⟩) (hSw.block ba hba)).trans a2; go_simp <;> with_reducible rfl
        simp only [Act.put, List.setIfInBounds_toArray, List.set_cons_zero, List.set_cons_succ]
        refine heldTake 4 (some 20) (v := ?_) rfl rfl (by kernel_rfl) (by kernel_rfl) (by kernel_rfl) (by rfl) hHeld (fun _ _ _ h => h) ?_ ?_
        rotate_left
        · intro w' hSw; (try dsimp only at hSw); go_simp <;> with_reducible rfl
        simp only [Act.put, List.setIfInBounds_toArray, List.set_cons_zero, List.set_cons_succ]
        refine heldTake 5 (some 21) (v := ?_) rfl rfl (by kernel_rfl) (by kernel_rfl) (by kernel_rfl) (by rfl) hHeld (fun _ _ _ h => h) ?_ ?_
        rotate_left
        · intro w' hSw; (try dsimp only at hSw); go_simp <;> with_reducible rfl
        simp only [Act.put, List.setIfInBounds_toArray, List.set_cons_zero, List.set_cons_succ]
        refine heldTake 6 (some 22) (v := ?_) rfl rfl (by kernel_rfl) (by kernel_rfl) (by kernel_rfl) (by rfl) hHeld (fun _ _ _ h => h) ?_ ?_
        rotate_left
        · intro w' hSw; (try dsimp only at hSw); go_simp <;> with_reducible rfl
        simp only [Act.put, List.setIfInBounds_toArray, List.set_cons_zero, List.set_cons_succ]
        refine heldTake 7 (some 23) (v := ?_) rfl rfl (by kernel_rfl) (by kernel_rfl) (by kernel_rfl) (by rfl) hHeld (fun _ _ _ h => h) ?_ ?_
        rotate_left
        · intro w' hSw; (try dsimp only at hSw); have q0 := (World.cell?_of_block (w := wr) (a := ⟨bb, ob + k * 3, none⟩) (hSw.block bb hbb)).trans b0; have q1 := (World.cell?_of_block (w := wr) (a := ⟨bb, ob + k * 3 + 1, none⟩) (hSw.block bb hbb)).trans b1; have q2 := (World.cell?_of_block (w := wr) (a := ⟨bb, ob + k * 3 + 2, none⟩) (hSw.block bb hbb)).trans b2; go_simp <;> with_reducible rfl
        simp only [Act.put, List.setIfInBounds_toArray, List.set_cons_zero, List.set_cons_succ]
        refine heldTake 8 (some 24) (v := ?_) rfl rfl (by kernel_rfl) (by kernel_rfl) (by kernel_rfl) (by rfl) hHeld (fun _ _ _ h => h) ?_ ?_
        rotate_left
        · intro w' hSw; (try dsimp only at hSw); go_simp <;> with_reducible rfl
        simp only [Act.put, List.setIfInBounds_toArray, List.set_cons_zero, List.set_cons_succ]
        refine wpAnyH_done (by kernel_rfl) ?_ _
        refine NoPanic.normal ?_
        go_wp2_with fail
        go_roundw
        case rel => exact ⟨k + 1, by omega, by go_num, HST.out, hbw.drew⟩
        case measure => simp [intOf]; omega
      · have HD := Lib.hid (show res = false by rw [← HR.out]; exact decide_eq_false (get_ne HGA.out HGB.out hne))
        by_cases e1 : x.fr = y.fr
        · by_cases e2 : x.to = y.to
          · have e3 : ¬ x.id = y.id := fun e3 => hne (It.ext' e1 e2 e3)
            rw [e1] at a0
            rw [e2] at a1
            have n1 : (x.id == y.id) = false := by rw [beq_eq_false_iff_ne]; exact e3
            clear e1 e2
            go_wp2_with fail
            refine wp_region_noPanic ?_
            refine wp_region_held_drew (S := (fun w' => Below wr.heap.size wr w')) (by kernel_rfl) ?_ (fun hHeld => ?_)
            · exact (Below.refl _ _).drew
            refine heldTake 0 (some 16) (v := ?_) rfl rfl (by kernel_rfl) (by kernel_rfl) (by kernel_rfl) (by rfl) hHeld (fun _ _ _ h => h) ?_ ?_
            rotate_left
            · intro w' hSw; (try dsimp only at hSw); go_simp <;> with_reducible rfl
            simp only [Act.put, List.setIfInBounds_toArray, List.set_cons_zero, List.set_cons_succ]
            refine heldTake 1 (some 17) (v := ?_) rfl rfl (by kernel_rfl) (by kernel_rfl) (by kernel_rfl) (by rfl) hHeld (fun _ _ _ h => h) ?_ ?_
            rotate_left
            · intro w' hSw; (try dsimp only at hSw); go_simp <;> with_reducible rfl
            simp only [Act.put, List.setIfInBounds_toArray, List.set_cons_zero, List.set_cons_succ]
            refine heldTake 2 (some 18) (v := ?_) rfl rfl (by kernel_rfl) (by kernel_rfl) (by kernel_rfl) (by rfl) hHeld (fun _ _ _ h => h) ?_ ?_
            rotate_left
            · intro w' hSw; (try dsimp only at hSw); go_simp <;> with_reducible rfl
            simp only [Act.put, List.setIfInBounds_toArray, List.set_cons_zero, List.set_cons_succ]
            refine heldTake 3 (some 19) (v := ?_) rfl rfl (by kernel_rfl) (by kernel_rfl) (by kernel_rfl) (by rfl) hHeld (fun _ _ _ h => h) ?_ ?_
            rotate_left
            · intro w' hSw; (try dsimp only at hSw); have q0 := (World.cell?_of_block (w := wr) (a := ⟨ba, oa + k * 3, none⟩) (hSw.block ba hba)).trans a0; have q1 := (World.cell?_of_block (w := wr) (a := ⟨ba, oa + k * 3 + 1, none⟩) (hSw.block ba hba)).trans a1; have q2 := (World.cell?_of_block (w := wr) (a := ⟨ba, oa + k * 3 + 2, none⟩) (hSw.block ba hba)).trans a2; go_simp <;> with_reducible rfl
            simp only [Act.put, List.setIfInBounds_toArray, List.set_cons_zero, List.set_cons_succ]
            refine heldTake 4 (some 20) (v := ?_) rfl rfl (by kernel_rfl) (by kernel_rfl) (by kernel_rfl) (by rfl) hHeld (fun _ _ _ h => h) ?_ ?_
            rotate_left
            · intro w' hSw; (try dsimp only at hSw); go_simp <;> with_reducible rfl
            simp only [Act.put, List.setIfInBounds_toArray, List.set_cons_zero, List.set_cons_succ]
            refine heldTake 5 (some 21) (v := ?_) rfl rfl (by kernel_rfl) (by kernel_rfl) (by kernel_rfl) (by rfl) hHeld (fun _ _ _ h => h) ?_ ?_
            rotate_left
            · intro w' hSw; (try dsimp only at hSw); go_simp <;> with_reducible rfl
            simp only [Act.put, List.setIfInBounds_toArray, List.set_cons_zero, List.set_cons_succ]
            refine heldTake 6 (some 22) (v := ?_) rfl rfl (by kernel_rfl) (by kernel_rfl) (by kernel_rfl) (by rfl) hHeld (fun _ _ _ h => h) ?_ ?_
            rotate_left
            · intro w' hSw; (try dsimp only at hSw); go_simp <;> with_reducible rfl
            simp only [Act.put, List.setIfInBounds_toArray, List.set_cons_zero, List.set_cons_succ]
            refine heldTake 7 (some 23) (v := ?_) rfl rfl (by kernel_rfl) (by kernel_rfl) (by kernel_rfl) (by rfl) hHeld (fun _ _ _ h => h) ?_ ?_
            rotate_left
            · intro w' hSw; (try dsimp only at hSw); have q0 := (World.cell?_of_block (w := wr) (a := ⟨bb, ob + k * 3, none⟩) (hSw.block bb hbb)).trans b0; have q1 := (World.cell?_of_block (w := wr) (a := ⟨bb, ob + k * 3 + 1, none⟩) (hSw.block bb hbb)).trans b1; have q2 := (World.cell?_of_block (w := wr) (a := ⟨bb, ob + k * 3 + 2, none⟩) (hSw.block bb hbb)).trans b2; go_simp <;> with_reducible rfl
            simp only [Act.put, List.setIfInBounds_toArray, List.set_cons_zero, List.set_cons_succ]
            refine heldTake 8 (some 24) (v := ?_) rfl rfl (by kernel_rfl) (by kernel_rfl) (by kernel_rfl) (by rfl) hHeld (fun _ _ _ h => h) ?_ ?_
            rotate_left
            · intro w' hSw; (try dsimp only at hSw); go_simp <;> with_reducible rfl
            simp only [Act.put, List.setIfInBounds_toArray, List.set_cons_zero, List.set_cons_succ]
            refine wpAnyH_done (by kernel_rfl) ?_ _
            refine NoPanic.normal ?_
            go_wp2_with fail
            go_ret
            exact ⟨by rw [HD.out]; rfl, hbw.drew⟩
          · rw [e1] at a0
            have n1 : (x.to == y.to) = false := by rw [beq_eq_false_iff_ne]; exact e2
            clear e1
            go_wp2_with fail
            refine wp_region_noPanic ?_
            refine wp_region_held_drew (S := (fun w' => Below wr.heap.size wr w')) (by kernel_rfl) ?_ (fun hHeld => ?_)
            · exact (Below.refl _ _).drew
            refine heldTake 0 (some 16) (v := ?_) rfl rfl (by kernel_rfl) (by kernel_rfl) (by kernel_rfl) (by rfl) hHeld (fun _ _ _ h => h) ?_ ?_
            rotate_left
            · intro w' hSw; (try dsimp only at hSw); go_simp <;> with_reducible rfl
            simp only [Act.put, List.setIfInBounds_toArray, List.set_cons_zero, List.set_cons_succ]
            refine heldTake 1 (some 17) (v := ?_) rfl rfl (by kernel_rfl) (by kernel_rfl) (by kernel_rfl) (by rfl) hHeld (fun _ _ _ h => h) ?_ ?_
            rotate_left
            · intro w' hSw; (try dsimp only at hSw); go_simp <;> with_reducible rfl
            simp only [Act.put, List.setIfInBounds_toArray, List.set_cons_zero, List.set_cons_succ]
            refine heldTake 2 (some 18) (v := ?_) rfl rfl (by kernel_rfl) (by kernel_rfl) (by kernel_rfl) (by rfl) hHeld (fun _ _ _ h => h) ?_ ?_
            rotate_left
            · intro w' hSw; (try dsimp only at hSw); go_simp <;> with_reducible rfl
            simp only [Act.put, List.setIfInBounds_toArray, List.set_cons_zero, List.set_cons_succ]
            refine heldTake 3 (some 19) (v := ?_) rfl rfl (by kernel_rfl) (by kernel_rfl) (by kernel_rfl) (by rfl) hHeld (fun _ _ _ h => h) ?_ ?_
            rotate_left
            · intro w' hSw; (try dsimp only at hSw); have q0 := (World.cell?_of_block (w := wr) (a := ⟨ba, oa + k * 3, none⟩) (hSw.block ba hba)).trans a0; have q1 := (World.cell?_of_block (w := wr) (a := ⟨ba, oa + k * 3 + 1, none⟩) (hSw.block ba hba)).trans a1; have q2 := (World.cell?_of_block (w := wr) (a := ⟨ba, oa + k * 3 + 2, none⟩) (hSw.block ba hba)).trans a2; go_simp <;> with_reducible rfl
            simp only [Act.put, List.setIfInBounds_toArray, List.set_cons_zero, List.set_cons_succ]
            refine heldTake 4 (some 20) (v := ?_) rfl rfl (by kernel_rfl) (by kernel_rfl) (by kernel_rfl) (by rfl) hHeld (fun _ _ _ h => h) ?_ ?_
            rotate_left
            · intro w' hSw; (try dsimp only at hSw); go_simp <;> with_reducible rfl
            simp only [Act.put, List.setIfInBounds_toArray, List.set_cons_zero, List.set_cons_succ]
            refine heldTake 5 (some 21) (v := ?_) rfl rfl (by kernel_rfl) (by kernel_rfl) (by kernel_rfl) (by rfl) hHeld (fun _ _ _ h => h) ?_ ?_
            rotate_left
            · intro w' hSw; (try dsimp only at hSw); go_simp <;> with_reducible rfl
            simp only [Act.put, List.setIfInBounds_toArray, List.set_cons_zero, List.set_cons_succ]
            refine heldTake 6 (some 22) (v := ?_) rfl rfl (by kernel_rfl) (by kernel_rfl) (by kernel_rfl) (by rfl) hHeld (fun _ _ _ h => h) ?_ ?_
            rotate_left
            · intro w' hSw; (try dsimp only at hSw); go_simp <;> with_reducible rfl
            simp only [Act.put, List.setIfInBounds_toArray, List.set_cons_zero, List.set_cons_succ]
            refine heldTake 7 (some 23) (v := ?_) rfl rfl (by kernel_rfl) (by kernel_rfl) (by kernel_rfl) (by rfl) hHeld (fun _ _ _ h => h) ?_ ?_
            rotate_left
            · intro w' hSw; (try dsimp only at hSw); have q0 := (World.cell?_of_block (w := wr) (a := ⟨bb, ob + k * 3, none⟩) (hSw.block bb hbb)).trans b0; have q1 := (World.cell?_of_block (w := wr) (a := ⟨bb, ob + k * 3 + 1, none⟩) (hSw.block bb hbb)).trans b1; have q2 := (World.cell?_of_block (w := wr) (a := ⟨bb, ob + k * 3 + 2, none⟩) (hSw.block bb hbb)).trans b2; go_simp <;> with_reducible rfl
            simp only [Act.put, List.setIfInBounds_toArray, List.set_cons_zero, List.set_cons_succ]
            refine heldTake 8 (some 24) (v := ?_) rfl rfl (by kernel_rfl) (by kernel_rfl) (by kernel_rfl) (by rfl) hHeld (fun _ _ _ h => h) ?_ ?_
            rotate_left
            · intro w' hSw; (try dsimp only at hSw); go_simp <;> with_reducible rfl
            simp only [Act.put, List.setIfInBounds_toArray, List.set_cons_zero, List.set_cons_succ]
            refine wpAnyH_done (by kernel_rfl) ?_ _
            refine NoPanic.normal ?_
            go_wp2_with fail
            go_ret
            exact ⟨by rw [HD.out]; rfl, hbw.drew⟩
        · have n1 : (x.fr == y.fr) = false := by rw [beq_eq_false_iff_ne]; exact e1
          go_wp2_with fail
          refine wp_region_noPanic ?_
          refine wp_region_held_drew (S := (fun w' => Below wr.heap.size wr w')) (by kernel_rfl) ?_ (fun hHeld => ?_)
          · exact (Below.refl _ _).drew
          refine heldTake 0 (some 16) (v := ?_) rfl rfl (by kernel_rfl) (by kernel_rfl) (by kernel_rfl) (by rfl) hHeld (fun _ _ _ h => h) ?_ ?_
          rotate_left
          · intro w' hSw; (try dsimp only at hSw); go_simp <;> with_reducible rfl
          simp only [Act.put, List.setIfInBounds_toArray, List.set_cons_zero, List.set_cons_succ]
          refine heldTake 1 (some 17) (v := ?_) rfl rfl (by kernel_rfl) (by kernel_rfl) (by kernel_rfl) (by rfl) hHeld (fun _ _ _ h => h) ?_ ?_
          rotate_left
          · intro w' hSw; (try dsimp only at hSw); go_simp <;> with_reducible rfl
          simp only [Act.put, List.setIfInBounds_toArray, List.set_cons_zero, List.set_cons_succ]
          refine heldTake 2 (some 18) (v := ?_) rfl rfl (by kernel_rfl) (by kernel_rfl) (by kernel_rfl) (by rfl) hHeld (fun _ _ _ h => h) ?_ ?_
          rotate_left
          · intro w' hSw; (try dsimp only at hSw); go_simp <;> with_reducible rfl
          simp only [Act.put, List.setIfInBounds_toArray, List.set_cons_zero, List.set_cons_succ]
          refine heldTake 3 (some 19) (v := ?_) rfl rfl (by kernel_rfl) (by kernel_rfl) (by kernel_rfl) (by rfl) hHeld (fun _ _ _ h => h) ?_ ?_
          rotate_left
          · intro w' hSw; (try dsimp only at hSw); have q0 := (World.cell?_of_block (w := wr) (a := ⟨ba, oa + k * 3, none⟩) (hSw.block ba hba)).trans a0; have q1 := (World.cell?_of_block (w := wr) (a := ⟨ba, oa + k * 3 + 1, none⟩) (hSw.block ba hba)).trans a1; have q2 := (World.cell?_of_block (w := wr) (a := ⟨ba, oa + k * 3 + 2, none⟩) (hSw.block ba hba)).trans a2; go_simp <;> with_reducible rfl
          simp only [Act.put, List.setIfInBounds_toArray, List.set_cons_zero, List.set_cons_succ]
          refine heldTake 4 (some 20) (v := ?_) rfl rfl (by kernel_rfl) (by kernel_rfl) (by kernel_rfl) (by rfl) hHeld (fun _ _ _ h => h) ?_ ?_
          rotate_left
          · intro w' hSw; (try dsimp only at hSw); go_simp <;> with_reducible rfl
          simp only [Act.put, List.setIfInBounds_toArray, List.set_cons_zero, List.set_cons_succ]
          refine heldTake 5 (some 21) (v := ?_) rfl rfl (by kernel_rfl) (by kernel_rfl) (by kernel_rfl) (by rfl) hHeld (fun _ _ _ h => h) ?_ ?_
          rotate_left
          · intro w' hSw; (try dsimp only at hSw); go_simp <;> with_reducible rfl
          simp only [Act.put, List.setIfInBounds_toArray, List.set_cons_zero, List.set_cons_succ]
          refine heldTake 6 (some 22) (v := ?_) rfl rfl (by kernel_rfl) (by kernel_rfl) (by kernel_rfl) (by rfl) hHeld (fun _ _ _ h => h) ?_ ?_
          rotate_left
          · intro w' hSw; (try dsimp only at hSw); go_simp <;> with_reducible rfl
          simp only [Act.put, List.setIfInBounds_toArray, List.set_cons_zero, List.set_cons_succ]
          refine heldTake 7 (some 23) (v := ?_) rfl rfl (by kernel_rfl) (by kernel_rfl) (by kernel_rfl) (by rfl) hHeld (fun _ _ _ h => h) ?_ ?_
          rotate_left
          · intro w' hSw; (try dsimp only at hSw); have q0 := (World.cell?_of_block (w := wr) (a := ⟨bb, ob + k * 3, none⟩) (hSw.block bb hbb)).trans b0; have q1 := (World.cell?_of_block (w := wr) (a := ⟨bb, ob + k * 3 + 1, none⟩) (hSw.block bb hbb)).trans b1; have q2 := (World.cell?_of_block (w := wr) (a := ⟨bb, ob + k * 3 + 2, none⟩) (hSw.block bb hbb)).trans b2; go_simp <;> with_reducible rfl
          simp only [Act.put, List.setIfInBounds_toArray, List.set_cons_zero, List.set_cons_succ]
          refine heldTake 8 (some 24) (v := ?_) rfl rfl (by kernel_rfl) (by kernel_rfl) (by kernel_rfl) (by rfl) hHeld (fun _ _ _ h => h) ?_ ?_
          rotate_left
          · intro w' hSw; (try dsimp only at hSw); go_simp <;> with_reducible rfl
          simp only [Act.put, List.setIfInBounds_toArray, List.set_cons_zero, List.set_cons_succ]
          refine wpAnyH_done (by kernel_rfl) ?_ _
          refine NoPanic.normal ?_
          go_wp2_with fail
          go_ret
          exact ⟨by rw [HD.out]; rfl, hbw.drew⟩
    · have HD := Lib.hid (show res = true by
        rw [← HR.out]
        refine decide_eq_true ?_
        have := HTK.out
        rwa [List.take_of_length_le (by omega), List.take_of_length_le (by omega)] at this)
      clear hll
      go_wp2_with fail
      go_ret
      exact ⟨by rw [HD.out]; rfl, hbw⟩

set_option maxRecDepth 100000 in
set_option maxHeartbeats 1000000 in
theorem contains_any (FA : Nat → Prop) (va : Value) (la : List Int) (n : Int) (w : World) (ha : Rd w FA 1 va la.length (iv la)) :
    Calls Try.prog 13 #[va, .int .i64 n] w fun e w' => e = .returned (.bool (decide (n ∈ la))) ∧ w = w' := by
  obtain ⟨Aa, ca, rfl, x1, x2, x3⟩ := ha.open_
  have HX3 := Lib.hid x3
  unfold maxLen at x2
  clear x3
  generalize hres : decide (n ∈ la) = res
  have HR := Lib.hid hres
  clear hres
  go_enter Try.func13, Try.ntmps13
  go_wp2_with fail
  go_loop [9] (fun i => ∃ k : Nat, k ≤ la.length ∧ i = .int .i64 (k : Int) ∧ n ∉ la.take k) (fun i => la.length - (intOf i).toNat)
  case atStart => exact ⟨0, Nat.zero_le _, rfl, by simp⟩
  case round =>
    obtain ⟨k, hk, rfl, htk⟩ := hrel
    have HTK := Lib.hid htk
    clear htk
    by_cases hlt : k < la.length
    · have hga : la[k]? = some la[k] := List.getElem?_eq_getElem hlt
      obtain ⟨ba, oa, rfl, _, a0⟩ := RdI.elem ha hga
      have HTS : Hid (la.take (k + 1) = la.take k ++ [la[k]]) := Lib.hid (List.take_succ_eq_append_getElem hlt)
      have HM := Lib.hid (List.getElem_mem hlt)
      clear hga
      generalize la[k] = x at *
      by_cases he : x = n
      · have HD := Lib.hid (show res = true by rw [← HR.out]; exact decide_eq_true (he ▸ HM.out))
        have b1 : (x == n) = true := by rw [beq_iff_eq]; exact he
        clear he
        go_wp2_with fail
        go_ret
        exact ⟨by rw [HD.out]; rfl, rfl⟩
      · have b1 : (x == n) = false := by rw [beq_eq_false_iff_ne]; exact he
        go_wp2_with fail
        go_round
        case rel => exact ⟨k + 1, by omega, by go_num, by rw [HTS.out, List.mem_append, List.mem_singleton]; rintro (h | h); exact HTK.out h; exact he h.symm⟩
        case measure => simp [intOf]; omega
    · have HD := Lib.hid (show res = false by
        rw [← HR.out]
        refine decide_eq_false ?_
        have := HTK.out
        rwa [List.take_of_length_le (by omega)] at this)
      go_wp2_with fail
      go_ret
      exact ⟨by rw [HD.out]; rfl, rfl⟩
end Go.Proofs.Ytkocehfapcmiiaa
