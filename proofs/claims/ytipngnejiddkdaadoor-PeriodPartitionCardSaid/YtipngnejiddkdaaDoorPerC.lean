/-
  Periods: differences, of the program and of the reference.
-/
import Derived.Test.YtipngnejiddkdaaDoorPerB
import Derived.Test.YtipngnejiddkdaaDoorMem2
namespace Go.Proofs.YtipngnejiddkdaaDoor
open Go.RowKit Go.Lib

/-- the cells of a list of periods -/
def cp (ps : List (Int × Int)) : List Value := ps.flatMap fun p => [.int .i64 p.1, .int .i64 p.2]
theorem cp_length (ps : List (Int × Int)) : (cp ps).length = ps.length * 2 := by
  induction ps with
  | nil => rfl
  | cons x xs ih => simp only [cp, List.flatMap_cons, List.length_append, List.length_cons] at *; rw [ih]; simp; omega
theorem cp_append (a b : List (Int × Int)) : cp (a ++ b) = cp a ++ cp b := by simp [cp]
theorem cp_one (xs : List (Int × Int)) : ∀ u ∈ cp xs, u.oneCell' = true := by
  intro u hu
  simp only [cp, List.mem_flatMap] at hu
  obtain ⟨x, _, h⟩ := hu
  simp at h
  rcases h with rfl | rfl <;> rfl
theorem cp_get {xs : List (Int × Int)} {k : Nat} (hk : k < xs.length) : (cp xs)[k * 2]? = some (.int .i64 xs[k].1) ∧ (cp xs)[k * 2 + 1]? = some (.int .i64 xs[k].2) := by
  induction xs generalizing k with
  | nil => simp at hk
  | cons x xs ih =>
    cases k with
    | zero => simp [cp]
    | succ k =>
      have := ih (k := k) (by simpa using hk)
      rw [cp, List.flatMap_cons, List.getElem?_append_right (by simp; omega), List.getElem?_append_right (by simp; omega)]
      simpa [Nat.add_mul, cp] using this
def RdP (w : World) (F : Nat → Prop) (v : Value) (ps : List (Int × Int)) : Prop := Rd w F 2 v ps.length (cp ps)
def OwnP (w : World) (base : Nat) (v : Value) (ps : List (Int × Int)) : Prop := w.ownsRow base 23 2 v ps.length (cp ps)
theorem OwnP.rd {w : World} {base : Nat} {v : Value} {ps : List (Int × Int)} (h : OwnP w base v ps) : RdP w (· < w.heap.size) v ps := (Rd.of_own h).wide fun _ hb => hb.2
theorem ownP_of {w : World} {base : Nat} {v : Value} {xs ys : List (Int × Int)} (h : w.ownsRow base 23 2 v (xs.length + ys.length) (cp xs ++ cp ys)) : OwnP w base v (xs ++ ys) := by
  unfold OwnP; rw [cp_append, List.length_append]; exact h
theorem rdP_new (w : World) (H : Nat) (hH : w.heap.size = H) (xs : List (Int × Int)) (n : Nat) (hn : xs.length = n) (hm : n ≤ 1000) : RdP (w.alloc (.cells (cp xs).toArray 23)) (· = H) (.slice (some ⟨H, 0, none⟩) n n) xs := by
  subst hn
  exact Rd.new' w H hH (cp xs) 23 2 xs.length (cp_length xs) (by simp only [maxLen]; omega)
theorem RdP.at_ {w : World} {F : Nat → Prop} {A : Option Addr} {c : Nat} {xs : List (Int × Int)} (h : RdP w F (.slice A xs.length c) xs) {k : Nat} (hk : k < xs.length) :
    ∃ b off, A = some ⟨b, off, none⟩ ∧ F b ∧ w.cell? ⟨b, off + k * 2, none⟩ = some (.int .i64 xs[k].1) ∧ w.cell? ⟨b, off + k * 2 + 1, none⟩ = some (.int .i64 xs[k].2) := by
  obtain ⟨b, off, rfl, hF, hc⟩ := Rd.plain h (by omega) (by omega)
  exact ⟨b, off, rfl, hF, hc (k * 2) _ (cp_get hk).1, hc (k * 2 + 1) _ (cp_get hk).2⟩
theorem RdP.below {w w' : World} {v : Value} {xs : List (Int × Int)} (h : RdP w (· < w.heap.size) v xs) (hb : Below w.heap.size w w') : RdP w' (· < w'.heap.size) v xs := Rd.below' h hb
theorem infoP : (Tryd.prog.info? 23).map (fun i => (i.zero, i.size, i.bytes)) = some (some (.agg #[.int .i64 0, .int .i64 0]), 2, 16) := by kernel_rfl
theorem OwnP.nil (w : World) (base : Nat) : OwnP w base (.slice none 0 0) [] := World.ownsRow_nil w _ _ _
/-- the result is new and reads ps -/
def NewP (w0 : World) (ps : List (Int × Int)) (e : Ending) (w : World) : Prop := ∃ v, e = .returned v ∧ RdP w (· < w.heap.size) v ps ∧ Below w0.heap.size w0 w
def subP (f t a b : Int) : List (Int × Int) :=
  if validP f t = false then [] else if ovP f t a b = false then [(f, t)] else (if f < a then [(f, a)] else []) ++ (if b < t then [(b, t)] else [])

theorem idx0 (x0 x1 x2 x3 : Int) (w : World) : (Instr.index 41 (.agg #[.int .i64 x0, .int .i64 x1, .int .i64 x2, .int .i64 x3]) (.int .i64 0)).run Tryd.prog w = .ok (.agg #[.int .i64 x0, .int .i64 x1]) w := by
  obtain ⟨i0, hi, hz0, hz1, hz2⟩ := info_parts infoP
  simp [Instr.index, run_underlying Tryd.underlying41, asIntOf, sizeOf, typeInfo, hi, hz1, part]
theorem idx1 (x0 x1 x2 x3 : Int) (w : World) : (Instr.index 41 (.agg #[.int .i64 x0, .int .i64 x1, .int .i64 x2, .int .i64 x3]) (.int .i64 1)).run Tryd.prog w = .ok (.agg #[.int .i64 x2, .int .i64 x3]) w := by
  obtain ⟨i0, hi, hz0, hz1, hz2⟩ := info_parts infoP
  simp [Instr.index, run_underlying Tryd.underlying41, asIntOf, sizeOf, typeInfo, hi, hz1, part]
theorem take_0 {p0 p1 : Int × Int} {g : Int × Int → Bool} : (([p0, p1]).take 1).filter g = (([p0, p1]).take 0).filter g ++ if g p0 = true then [p0] else [] := by
  cases h : g p0 <;> simp [h]
theorem take_1 {p0 p1 : Int × Int} {g : Int × Int → Bool} : (([p0, p1]).take 2).filter g = (([p0, p1]).take 1).filter g ++ if g p1 = true then [p1] else [] := by
  cases h0 : g p0 <;> cases h : g p1 <;> simp [h, h0]
theorem own_below {w w' : World} {base : Nat} {v : Value} {ps : List (Int × Int)} (h : OwnP w base v ps) (hb : Below w.heap.size w w') : OwnP w' base v ps :=
  h.kept (row := none) ⟨hb.os, hb.tape, hb.output, hb.size, fun k hk _ => hb.block k hk⟩ (by cases v.ownBlock <;> simp)
theorem OwnP.alloc {w : World} {base : Nat} {v : Value} {ps : List (Int × Int)} (h : OwnP w base v ps) (o : Obj) : OwnP (w.alloc o) base v ps := World.ownsRow.alloc h o
def SubRel (base : Nat) (w0 : World) (p0 p1 : Int × Int) (out i : Value) (w : World) : Prop :=
  ∃ k : Nat, k ≤ 2 ∧ i = .int .i64 k ∧ OwnP w base out ((([p0, p1]).take k).filter fun p => validP p.1 p.2) ∧ Below w0.heap.size w0 w


set_option maxRecDepth 100000 in
set_option maxHeartbeats 2000000 in
theorem sub_over (f t a b m n : Int) (w : World) (hv : validP f t = true) (h : ovP f t a b = true) (hm : max f a = m) (hn : min t b = n) :
    Calls Tryd.prog 14 #[.agg #[.int .i64 f, .int .i64 t], .agg #[.int .i64 a, .int .i64 b]] w (NewP w (([(f, m), (n, t)]).filter fun p => validP p.1 p.2)) := by
  obtain ⟨i0, hi, hz0, hz1, hz2⟩ := info_parts infoP
  have HV := Lib.hid hv
  have HC := Lib.hid (fun w => inter_y1 f t a b w h)
  rw [hm, hn] at HC
  clear h hv hm hn
  go_enter Tryd.func14, Tryd.ntmps14
  go_wp2_with fail
  (with_reducible refine (valid_any f t _).mono ?_)
  rw [HV.out]
  rintro e w1 ⟨rfl, hb1⟩
  obtain ⟨hc, _⟩ := bcell hb1
  simp only [World.size_alloc] at hc
  have hz : w.heap.size + 2 ≤ w1.heap.size := by have := hb1.size; simp at this; omega
  go_wp2_with fail
  (with_reducible refine (HC.out _).mono ?_)
  rintro e w2 ⟨rfl, hb2⟩
  have hB2 := ((Below.of_alloc (w := w) _).alloc (by simp) _).trans ((hb1.trans (hb2.mono hb1.size)).mono (by simp; omega))
  clear hc
  obtain ⟨hc, _⟩ := bcell (hb1.trans (hb2.mono hb1.size))
  simp only [World.size_alloc] at hc
  have hs0 : w.heap.size < w2.heap.size := by have := hb2.size; omega
  have c0 := (hc w.heap.size 0 (by omega)).trans ((((Below.of_alloc (w := w.alloc (.cells #[.int .i64 f, .int .i64 t] 23)) (.cells #[.int .i64 a, .int .i64 b] 23))).cell (p := ⟨w.heap.size, 0, none⟩) (by simp)).trans (box_cell w _ _ 0 rfl))
  have c1 := (hc w.heap.size 1 (by omega)).trans ((((Below.of_alloc (w := w.alloc (.cells #[.int .i64 f, .int .i64 t] 23)) (.cells #[.int .i64 a, .int .i64 b] 23))).cell (p := ⟨w.heap.size, 1, none⟩) (by simp)).trans (box_cell w _ _ 1 rfl))
  clear hc hb1 hb2
  go_wp2_with fail
  have hB3 := (hB2.alloc hB2.size (.cells #[.int .i64 m, .int .i64 n] 23)).alloc (by simp; have := hB2.size; omega) (.cells #[.int .i64 f, .int .i64 m, .int .i64 n, .int .i64 t] 41)
  generalize (w2.alloc (.cells #[.int .i64 m, .int .i64 n] 23)).alloc (.cells #[.int .i64 f, .int .i64 m, .int .i64 n, .int .i64 t] 41) = w3 at *
  go_loopw [8, 36] (fun out i wr => SubRel w.heap.size w (f, m) (n, t) out i wr) (fun _ i _ => 2 - (intOf i).toNat)
  case atStart => exact ⟨0, by omega, rfl, OwnP.nil _ _, hB3⟩
  case round =>
    obtain ⟨k, hk, rfl, hO, hB⟩ := hrel
    obtain ⟨wo, rfl⟩ : ∃ wo : World, wo = wr := ⟨_, rfl⟩
    by_cases hlt : k < 2
    · obtain rfl | rfl : k = 0 ∨ k = 1 := by omega
      · clear hlt hk
        have hx := idx0 f m n t
        by_cases hz : f = 0 ∧ m = 0
        · have hE := Lib.hid (show OwnP wo w.heap.size u8 ((([(f, m), (n, t)]).take 1).filter fun p => validP p.1 p.2) by rw [take_0, if_neg (by simp only [hz.1, hz.2]; decide), List.append_nil]; exact hO)
          have b1 : (f == 0) = true := by simpa using hz.1
          have b2 : (m == 0) = true := by simpa using hz.2
          clear hz hO
          go_wp2_with fail
          go_roundw
          case rel => exact ⟨1, by omega, by first | rfl | go_num, (hE.out).alloc _, hB.alloc hB.size _⟩
          case measure => simp [intOf]
        · have hh : ((f == 0) = true ∧ (m == 0) = false) ∨ (f == 0) = false := by
            by_cases h0 : f = 0
            · exact .inl ⟨by simpa using h0, by simpa using fun h => hz ⟨h0, h⟩⟩
            · exact .inr (by simpa using h0)
          clear hz
          rcases hh with ⟨b1, b2⟩ | b1
          all_goals
            cases hv : validP f m
            · have hE := Lib.hid (show OwnP wo w.heap.size u8 ((([(f, m), (n, t)]).take 1).filter fun p => validP p.1 p.2) by rw [take_0, if_neg (by simp only [hv]; simp), List.append_nil]; exact hO)
              have HV2 := Lib.hid hv
              clear hv hO
              go_wp2_with fail
              (with_reducible refine (valid_any f m _).mono ?_)
              rw [HV2.out]
              rintro e w4 ⟨rfl, hb4⟩
              go_wp2_with fail
              go_roundw
              case rel => exact ⟨1, by omega, by first | rfl | go_num, own_below ((hE.out).alloc _) hb4, (hB.alloc hB.size _).trans (hb4.mono (by simp; have := hB.size; omega))⟩
              case measure => simp [intOf]
            · have hE : (([(f, m), (n, t)]).take 1).filter (fun p => validP p.1 p.2) = (([(f, m), (n, t)]).take 0).filter (fun p => validP p.1 p.2) ++ [(f, m)] := by rw [take_0, if_pos hv]
              have HE := Lib.hid hE
              have HV2 := Lib.hid hv
              clear hv hE
              have hlen : ((([(f, m), (n, t)]).take 0).filter (fun p => validP p.1 p.2)).length ≤ 2 := Nat.le_trans (List.length_filter_le _ _) (by simp)
              generalize (([(f, m), (n, t)]).take 0).filter (fun p => validP p.1 p.2) = L at *
              go_wp2_with fail
              (with_reducible refine (valid_any f m _).mono ?_)
              rw [HV2.out]
              rintro e w4 ⟨rfl, hb4⟩
              have q0 := ((hb4.cell (p := ⟨wo.heap.size, 0, none⟩) (by simp)).trans (box_cell wo _ _ 0 rfl))
              have q1 := ((hb4.cell (p := ⟨wo.heap.size, 1, none⟩) (by simp)).trans (box_cell wo _ _ 1 rfl))
              have hO4 := own_below (hO.alloc (.cells #[.int .i64 f, .int .i64 m] 23)) hb4
              have hB4 : Below w.heap.size w w4 := (hB.alloc hB.size _).trans (hb4.mono (by simp; have := hB.size; omega))
              have hz4 : w.heap.size ≤ w4.heap.size := hB4.size
              go_wp2_with (at_builtin; refine wpList_append_app _ rfl (.tmp 46) (.tmp 48) 27 rfl w.heap.size 23 i0 _ 2 16 Tryd.underlying27 hi hz0 hz1 hz2 rfl (by omega) u8 L.length (cp L) rfl (by exact .inl (hO4.alloc _)) (· = w4.heap.size) _ 1 (cp [(f, m)]) rfl (by exact rdP_new _ w4.heap.size rfl [(f, m)] 1 rfl (by omega)) (cp_one _) (by simp only [maxLen]; omega) (by omega) (by simp; omega) ?_; intro v5 w5 _ hO5 hg5 hb5 _)
              have hB5 : Below w.heap.size w w5 := (hB4.alloc hB4.size _).trans hb5
              go_roundw
              case rel => exact ⟨1, by omega, by first | rfl | go_num, by rw [HE.out]; exact ownP_of (hO5 (.inl (by omega))), hB5⟩
              case measure => simp [intOf]
      · clear hlt hk
        have hx := idx1 f m n t
        by_cases hz : n = 0 ∧ t = 0
        · have hE := Lib.hid (show OwnP wo w.heap.size u8 ((([(f, m), (n, t)]).take 2).filter fun p => validP p.1 p.2) by rw [take_1, if_neg (by simp only [hz.1, hz.2]; decide), List.append_nil]; exact hO)
          have b1 : (n == 0) = true := by simpa using hz.1
          have b2 : (t == 0) = true := by simpa using hz.2
          clear hz hO
          go_wp2_with fail
          go_roundw
          case rel => exact ⟨2, by omega, by first | rfl | go_num, (hE.out).alloc _, hB.alloc hB.size _⟩
          case measure => simp [intOf]
        · have hh : ((n == 0) = true ∧ (t == 0) = false) ∨ (n == 0) = false := by
            by_cases h0 : n = 0
            · exact .inl ⟨by simpa using h0, by simpa using fun h => hz ⟨h0, h⟩⟩
            · exact .inr (by simpa using h0)
          clear hz
          rcases hh with ⟨b1, b2⟩ | b1
          all_goals
            cases hv : validP n t
            · have hE := Lib.hid (show OwnP wo w.heap.size u8 ((([(f, m), (n, t)]).take 2).filter fun p => validP p.1 p.2) by rw [take_1, if_neg (by simp only [hv]; simp), List.append_nil]; exact hO)
              have HV2 := Lib.hid hv
              clear hv hO
              go_wp2_with fail
              (with_reducible refine (valid_any n t _).mono ?_)
              rw [HV2.out]
              rintro e w4 ⟨rfl, hb4⟩
              go_wp2_with fail
              go_roundw
              case rel => exact ⟨2, by omega, by first | rfl | go_num, own_below ((hE.out).alloc _) hb4, (hB.alloc hB.size _).trans (hb4.mono (by simp; have := hB.size; omega))⟩
              case measure => simp [intOf]
            · have hE : (([(f, m), (n, t)]).take 2).filter (fun p => validP p.1 p.2) = (([(f, m), (n, t)]).take 1).filter (fun p => validP p.1 p.2) ++ [(n, t)] := by rw [take_1, if_pos hv]
              have HE := Lib.hid hE
              have HV2 := Lib.hid hv
              clear hv hE
              have hlen : ((([(f, m), (n, t)]).take 1).filter (fun p => validP p.1 p.2)).length ≤ 2 := Nat.le_trans (List.length_filter_le _ _) (by simp)
              generalize (([(f, m), (n, t)]).take 1).filter (fun p => validP p.1 p.2) = L at *
              go_wp2_with fail
              (with_reducible refine (valid_any n t _).mono ?_)
              rw [HV2.out]
              rintro e w4 ⟨rfl, hb4⟩
              have q0 := ((hb4.cell (p := ⟨wo.heap.size, 0, none⟩) (by simp)).trans (box_cell wo _ _ 0 rfl))
              have q1 := ((hb4.cell (p := ⟨wo.heap.size, 1, none⟩) (by simp)).trans (box_cell wo _ _ 1 rfl))
              have hO4 := own_below (hO.alloc (.cells #[.int .i64 n, .int .i64 t] 23)) hb4
              have hB4 : Below w.heap.size w w4 := (hB.alloc hB.size _).trans (hb4.mono (by simp; have := hB.size; omega))
              have hz4 : w.heap.size ≤ w4.heap.size := hB4.size
              go_wp2_with (at_builtin; refine wpList_append_app _ rfl (.tmp 46) (.tmp 48) 27 rfl w.heap.size 23 i0 _ 2 16 Tryd.underlying27 hi hz0 hz1 hz2 rfl (by omega) u8 L.length (cp L) rfl (by exact .inl (hO4.alloc _)) (· = w4.heap.size) _ 1 (cp [(n, t)]) rfl (by exact rdP_new _ w4.heap.size rfl [(n, t)] 1 rfl (by omega)) (cp_one _) (by simp only [maxLen]; omega) (by omega) (by simp; omega) ?_; intro v5 w5 _ hO5 hg5 hb5 _)
              have hB5 : Below w.heap.size w w5 := (hB4.alloc hB4.size _).trans hb5
              go_roundw
              case rel => exact ⟨2, by omega, by first | rfl | go_num, by rw [HE.out]; exact ownP_of (hO5 (.inl (by omega))), hB5⟩
              case measure => simp [intOf]
    · have hk2 : k = 2 := by omega
      subst hk2
      go_wp2_with fail
      go_ret
      exact ⟨u8, rfl, hO.rd, hB⟩
end Go.Proofs.YtipngnejiddkdaaDoor
