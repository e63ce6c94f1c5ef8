/-
  Rows: reading them.
-/
import Derived.Test.YthfclmkeadpcbaaCodecO
namespace Go.Proofs.Ythfclmkeadpcbaa
open Go.RowKit Go.Lib

theorem infoV : (Try.prog.info? 37).map (fun i => (i.zero, i.size, i.bytes)) = some (some (.agg #[.int .i64 0, .int .i64 0, .string ⟨#[]⟩]), 3, 32) := by kernel_rfl
def OwnV (w : World) (base : Nat) (v : Value) (xs : List Val) : Prop := w.ownsRow base 37 3 v xs.length (cv xs)
theorem OwnV.rd {w : World} {base : Nat} {v : Value} {xs : List Val} (h : OwnV w base v xs) : RdV w (· < w.heap.size) v xs := (Rd.of_own h).wide fun _ hb => hb.2
theorem RdV.below {w w' : World} {v : Value} {xs : List Val} (h : RdV w (· < w.heap.size) v xs) (hb : Below w.heap.size w w') : RdV w' (· < w'.heap.size) v xs := Rd.below' h hb
theorem OwnV.nil (w : World) (base : Nat) : OwnV w base (.slice none 0 0) [] := World.ownsRow_nil w _ _ _

def decVs (l : List UInt8) : Nat → Int → List Val → List Val × Int × Int
  | 0, k, acc => (acc, k, 0)
  | m + 1, k, acc => if (decV l k).2.2 ≠ 0 then ([], 0, (decV l k).2.2) else decVs l m (decV l k).2.1 (acc ++ [(decV l k).1])
def decR (l : List UInt8) (k : Int) : List Val × Int × Int :=
  if (decI l k).2.2 ≠ 0 then ([], 0, (decI l k).2.2)
  else if (decI l k).1 < 0 then ([], 0, 1)
  else if 12 < (decI l k).1 then ([], 0, 5)
  else decVs l (decI l k).1.toNat (decI l k).2.1 []
def Row3 (r : List Val × Int × Int) (w0 : World) (e : Ending) (w : World) : Prop :=
  ∃ v, e = .returned (.tuple #[v, .int .i64 r.2.1, .int .i64 r.2.2]) ∧ OwnV w w0.heap.size v r.1 ∧ Below w0.heap.size w0 w

theorem set3 {w : World} {g : Nat} {arr : Array Value} {e : TypeId} (h : w.heap[g]? = some (.cells arr e (0, 0))) (i : Nat) (u0 u1 u2 : Value) :
    (((w.setCell ⟨g, i, none⟩ u0).setCell ⟨g, i + 1, none⟩ u1).setCell ⟨g, i + 2, none⟩ u2).heap[g]? = some (.cells (((arr.setIfInBounds i u0).setIfInBounds (i + 1) u1).setIfInBounds (i + 2) u2) e (0, 0)) := by
  simp [World.setCell, Array.getElem?_modify, h]
theorem list_set3 {arr : Array Value} {xs : List Val} {x : Val} {n : Nat} (hs : arr.size = n * 3) (hx : xs.length < n) (h : arr.toList.take (xs.length * 3) = cv xs) :
    (((arr.setIfInBounds (xs.length * 3) (.int .i64 x.kind)).setIfInBounds (xs.length * 3 + 1) (.int .i64 x.int)).setIfInBounds (xs.length * 3 + 2) (.string x.text)).toList.take ((xs ++ [x]).length * 3) = cv (xs ++ [x]) := by
  have hl : arr.toList.length = n * 3 := by rw [Array.length_toList]; exact hs
  have hc := cv_length xs
  rw [cv_append]
  simp only [Array.toList_setIfInBounds, List.length_append, List.length_cons, List.length_nil]
  apply List.ext_getElem?
  intro j
  rw [List.getElem?_take]
  by_cases hj : j < xs.length * 3
  · rw [if_pos (by omega), List.getElem?_append_left (by omega), ← h, List.getElem?_take, if_pos hj, List.getElem?_set_ne (by omega), List.getElem?_set_ne (by omega), List.getElem?_set_ne (by omega)]
  · rw [List.getElem?_append_right (by omega), hc]
    by_cases h0 : j = xs.length * 3
    · subst h0
      rw [if_pos (by omega), List.getElem?_set_ne (by omega), List.getElem?_set_ne (by omega), List.getElem?_set_self (by omega)]
      simp [cv, Val.cells]
    · by_cases h1 : j = xs.length * 3 + 1
      · subst h1
        rw [if_pos (by omega), List.getElem?_set_ne (by omega), List.getElem?_set_self (by rw [List.length_set]; omega)]
        simp [cv, Val.cells]
      · by_cases h2 : j = xs.length * 3 + 2
        · subst h2
          rw [if_pos (by omega), List.getElem?_set_self (by rw [List.length_set, List.length_set]; omega)]
          simp [cv, Val.cells]
        · rw [if_neg (by omega), List.getElem?_eq_none (by simp [cv, Val.cells]; omega)]

/-- the relation of the loop: block g holds what was read, and room for the rest -/
def RowDec (g n : Nat) (l : List UInt8) (res : List Val × Int × Int) (w0 : World) (nx i : Value) (w : World) : Prop :=
  ∃ (ys : List Val) (k : Int) (arr : Array Value), ys.length ≤ n ∧ i = .int .i64 ys.length ∧ nx = .int .i64 k ∧ decVs l (n - ys.length) k ys = res ∧
    w.heap[g]? = some (.cells arr 37 (0, 0)) ∧ arr.size = n * 3 ∧ arr.toList.take (ys.length * 3) = cv ys ∧ Below w0.heap.size w0 w

theorem rowDec_next {g N q : Nat} {l : List UInt8} {res : List Val × Int × Int} {w0 w : World} {ys : List Val} {x : Val} {k2 : Int} {arr : Array Value}
    (hd : (if (0 : Int) ≠ 0 then ([], 0, 0) else decVs l q k2 (ys ++ [x])) = res) (hq : N - ys.length = q + 1) (hg : w.heap[g]? = some (.cells arr 37 (0, 0))) (hz : arr.size = N * 3) (hlt : ys.length < N) (ht : arr.toList.take (ys.length * 3) = cv ys)
    (hb : Below w0.heap.size w0 (((w.setCell ⟨g, ys.length * 3, none⟩ (.int .i64 x.kind)).setCell ⟨g, ys.length * 3 + 1, none⟩ (.int .i64 x.int)).setCell ⟨g, ys.length * 3 + 2, none⟩ (.string x.text))) :
    RowDec g N l res w0 (.int .i64 k2) (.int .i64 ((ys.length : Int) + 1)) (((w.setCell ⟨g, ys.length * 3, none⟩ (.int .i64 x.kind)).setCell ⟨g, ys.length * 3 + 1, none⟩ (.int .i64 x.int)).setCell ⟨g, ys.length * 3 + 2, none⟩ (.string x.text)) := by
  refine ⟨ys ++ [x], k2, _, by simp; omega, by simp, rfl, ?_, set3 hg _ _ _ _, by simp [hz], list_set3 hz hlt ht, hb⟩
  have : N - (ys ++ [x]).length = q := by simp; omega
  rw [this]
  simpa using hd
theorem rowDec_end {g : Nat} {w : World} {w0 : World} {ys : List Val} {arr : Array Value} (hg : w.heap[g]? = some (.cells arr 37 (0, 0))) (hz : arr.size = ys.length * 3) (ht : arr.toList.take (ys.length * 3) = cv ys) (hb : w0.heap.size ≤ g := by exact Nat.le_refl _) (hn : ys.length ≤ 12 := by omega) :
    OwnV w w0.heap.size (.slice (some ⟨g, 0, none⟩) ys.length ys.length) ys :=
  ⟨cv_length ys, .inr ⟨g, ys.length, arr, rfl, hb, hg, Nat.le_refl _, by simp only [maxLen]; omega, hz, ht⟩⟩

set_option maxRecDepth 100000 in
set_option maxHeartbeats 1000000 in
theorem row_any (v : Value) (l : List UInt8) (k : Int) (w : World) (hv : RdB w (· < w.heap.size) v l) :
    Calls Try.prog 37 #[v, .int .i64 k] w (Row3 (decR l k) w) := by
  obtain ⟨i0, hi, hz0, hz1, hz2⟩ := info_parts infoV
  have hC := int_any (· < w.heap.size) v l k w hv
  have hbd := decI_bd l k
  unfold decR
  generalize decI l k = r at *
  obtain ⟨n, m, e⟩ := r
  simp only at hbd ⊢
  have HC := Lib.hid hC
  clear hC
  by_cases he : e = 0
  · subst he
    simp only [ne_eq, not_true_eq_false, if_false]
    by_cases h1 : n < 0
    · rw [if_pos h1]
      clear hbd
      go_enter Try.func37, Try.ntmps37
      go_wp2_with fail
      (with_reducible refine HC.out.mono ?_)
      rintro _ _ ⟨rfl, rfl⟩
      go_wp2_with fail
      go_ret3
      exact ⟨_, rfl, OwnV.nil _ _, Below.refl _ _⟩
    · rw [if_neg h1]
      by_cases h2 : 12 < n
      · rw [if_pos h2]
        clear hbd
        go_enter Try.func37, Try.ntmps37
        go_wp2_with fail
        (with_reducible refine HC.out.mono ?_)
        rintro _ _ ⟨rfl, rfl⟩
        go_wp2_with fail
        go_ret3
        exact ⟨_, rfl, OwnV.nil _ _, Below.refl _ _⟩
      · rw [if_neg h2]
        obtain ⟨N, rfl⟩ := Int.eq_ofNat_of_zero_le (show 0 ≤ n by omega)
        rw [Int.toNat_natCast]
        have hN : N ≤ 12 := by omega
        clear hbd h1 h2
        generalize hres : decVs l N m [] = res
        have HR := Lib.hid hres
        clear hres
        have hmk : ∀ W : World, (Instr.makeSlice 30 (.int .i64 (N : Int)) (.int .i64 (N : Int))).run Try.prog W = .ok (.slice (some ⟨W.heap.size, 0, none⟩) N N) (W.alloc (.cells (madeCells #[.int .i64 0, .int .i64 0, .string ⟨#[]⟩] (N * 3)) 37)) := fun W => by
          have h := run_make (P := Try.prog) W 30 37 i0 _ Try.underlying30 hi hz0 .i64 .i64 (N : Int) (N : Int) (by omega) (Int.le_refl _) (by rw [hz2]; omega) (by omega)
          rw [hz1, Int.toNat_natCast] at h
          exact h
        have hms := size_madeCells #[.int .i64 0, .int .i64 0, .string ⟨#[]⟩] (N * 3)
        generalize madeCells #[.int .i64 0, .int .i64 0, .string ⟨#[]⟩] (N * 3) = arr0 at *
        have HM := Lib.hid hms
        clear hms
        go_enter Try.func37, Try.ntmps37
        go_wp2_with fail
        (with_reducible refine HC.out.mono ?_)
        rintro _ _ ⟨rfl, rfl⟩
        go_wp2_with fail
        clear hmk
        go_loopw [8, 33] (fun nx i wr => RowDec w.heap.size N l res w nx i wr) (fun _ i _ => N - (intOf i).toNat)
        case atStart => exact ⟨[], m, arr0, Nat.zero_le _, rfl, rfl, HR.out, heap_alloc_new w _, HM.out, by simp [cv], below1 _⟩
        case round =>
          clear HR HM
          obtain ⟨ys, k1, arr, hy, rfl, rfl, hd, hg, hsz, htk, hB⟩ := hrel
          obtain ⟨wo, rfl⟩ : ∃ wo : World, wo = wr := ⟨_, rfl⟩
          by_cases hlt : ys.length < N
          · have hV := value_any v l k1 wo (hv.below hB)
            obtain ⟨q, hq⟩ : ∃ q, N - ys.length = q + 1 := ⟨N - ys.length - 1, by omega⟩
            rw [hq, decVs] at hd
            generalize decV l k1 = r at *
            obtain ⟨x, k2, e⟩ := r
            simp only at hd
            have HV := Lib.hid hV
            have HG := Lib.hid hg
            have HD := Lib.hid hd
            have HT := Lib.hid htk
            have HZ := Lib.hid hsz
            have HQ := Lib.hid hq
            have hgl : w.heap.size < wo.heap.size := (Array.getElem?_eq_some_iff.1 hg).1
            clear hV hg hd htk hsz hq
            go_wp2_with fail
            (with_reducible refine HV.out.mono ?_)
            rintro _ w2 ⟨rfl, hb2⟩
            have hg2 : w2.heap[w.heap.size]? = some (.cells arr 37 (0, 0)) := (hb2.block _ hgl).trans HG.out
            have c0 : w2.cell? ⟨w.heap.size, ys.length * 3, none⟩ = some (arr[ys.length * 3]'(by have := HZ.out; omega)) := (cell_of_row w2 _ _ arr _ _ hg2).trans (Array.getElem?_eq_getElem _)
            have c1 : w2.cell? ⟨w.heap.size, ys.length * 3 + 1, none⟩ = some (arr[ys.length * 3 + 1]'(by have := HZ.out; omega)) := (cell_of_row w2 _ _ arr _ _ hg2).trans (Array.getElem?_eq_getElem _)
            have c2 : w2.cell? ⟨w.heap.size, ys.length * 3 + 2, none⟩ = some (arr[ys.length * 3 + 2]'(by have := HZ.out; omega)) := (cell_of_row w2 _ _ arr _ _ hg2).trans (Array.getElem?_eq_getElem _)
            have hfz : ∀ o, w2.frozen? ⟨w.heap.size, o, none⟩ = false := fun o => by simp [World.frozen?, hg2]
            have HG2 := Lib.hid hg2
            clear hg2
            by_cases he2 : e = 0
            · subst he2
              go_wp2_with fail
              go_roundw
              case rel => exact rowDec_next HD.out HQ.out HG2.out HZ.out hlt HT.out ((hB.trans (hb2.mono (Nat.le_of_lt hgl))).setCell (Nat.le_refl _) _ |>.setCell (Nat.le_refl _) _ |>.setCell (Nat.le_refl _) _)
              case measure => simp [intOf]; omega
            · have b1 : (e != 0) = true := by rw [bne_iff_ne]; exact he2
              have hres : ([], 0, e) = res := by have := HD.out; simpa [he2] using this
              obtain rfl := hres
              clear HD
              have HE := Lib.hid he2
              clear he2
              go_wp2_with fail
              go_ret3
              exact ⟨_, rfl, OwnV.nil _ _, ((hB.trans (hb2.mono (Nat.le_of_lt hgl))).setCell (Nat.le_refl _) _ |>.setCell (Nat.le_refl _) _ |>.setCell (Nat.le_refl _) _)⟩
          · have hNy : N = ys.length := by omega
            subst hNy
            rw [Nat.sub_self, decVs] at hd
            obtain rfl := hd
            have HG := Lib.hid hg
            have HT := Lib.hid htk
            have HZ := Lib.hid hsz
            clear hg htk hsz
            go_wp2_with fail
            go_ret3
            exact ⟨_, rfl, rowDec_end HG.out HZ.out HT.out, hB⟩
  · simp only [ne_eq, he, not_false_eq_true, if_true]
    have b1 : (e != 0) = true := by rw [bne_iff_ne]; exact he
    have HE := Lib.hid he
    clear he hbd
    go_enter Try.func37, Try.ntmps37
    go_wp2_with fail
    (with_reducible refine HC.out.mono ?_)
    rintro _ _ ⟨rfl, rfl⟩
    go_wp2_with fail
    go_ret3
    exact ⟨_, rfl, OwnV.nil _ _, Below.refl _ _⟩

end Go.Proofs.Ythfclmkeadpcbaa
