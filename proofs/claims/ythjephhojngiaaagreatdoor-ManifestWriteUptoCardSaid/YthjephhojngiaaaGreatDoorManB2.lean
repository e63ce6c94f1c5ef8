/-
  Manifests: the names that a manifest mentions, however many.
-/
import Derived.Test.YthjephhojngiaaaGreatDoorManB
namespace Go.Proofs.YthjephhojngiaaaGreatDoor
open Go.RowKit Go.Lib Go.IntWalk

set_option maxRecDepth 100000 in
set_option maxHeartbeats 4000000 in
theorem names_big (F : Nat → Prop) (v : Value) (m : Man) (w : World) (h : Rd w F 1 v m.segs.length (sv m.segs)) (hF : ∀ b, F b → b < w.heap.size) (hl : m.segs.length ≤ 1099511627776) :
    ∀ As cs, v = .slice As m.segs.length cs → Calls Tryz.prog 43 #[manV As cs m] w (NamesOut (nmsF m) w) := by
  intro As cs hv
  subst hv
  obtain ⟨W, hW⟩ : ∃ W, W = w.alloc (.cells #[.string (strB m.base), .slice As m.segs.length cs, .string (strB m.log), .int .i64 m.tx, .int .i64 m.nx] 25) := ⟨_, rfl⟩
  have hbW : Below w.heap.size w W := by rw [hW]; exact Below.of_alloc _
  have hsW : w.heap.size < W.heap.size := by rw [hW]; simp
  have hPW : W.heap[w.heap.size]? = some (.cells #[.string (strB m.base), .slice As m.segs.length cs, .string (strB m.log), .int .i64 m.tx, .int .i64 m.nx] 25 (0, 0)) := by rw [hW]; exact heap_alloc_new w _
  have c0 : W.cell? ⟨w.heap.size, 0, none⟩ = some (.string (strB m.base)) := cell_of_row _ _ 0 _ _ _ hPW
  have c1 : W.cell? ⟨w.heap.size, 1, none⟩ = some (.slice As m.segs.length cs) := cell_of_row _ _ 1 _ _ _ hPW
  have c2 : W.cell? ⟨w.heap.size, 2, none⟩ = some (.string (strB m.log)) := cell_of_row _ _ 2 _ _ _ hPW
  have c3 : W.cell? ⟨w.heap.size, 3, none⟩ = some (.int .i64 m.tx) := cell_of_row _ _ 3 _ _ _ hPW
  have c4 : W.cell? ⟨w.heap.size, 4, none⟩ = some (.int .i64 m.nx) := cell_of_row _ _ 4 _ _ _ hPW
  have d0 := c0; have d1 := c1; have d2 := c2
  rw [hW] at c0 c1 c2
  have hb1 := strB_empty (s := m.base)
  have hrW : Rd W F 1 (.slice As m.segs.length cs) m.segs.length (sv m.segs) := h.keep fun b hb => hbW.block b (hF b hb)
  obtain ⟨base, hbase⟩ : ∃ base, base = W.heap.size := ⟨_, rfl⟩
  have hsb : w.heap.size < base := by omega
  have HBASE := Lib.hid hbase
  have HW := Lib.hid hW
  have hbs0 : base ≤ W.heap.size := by omega
  have hbs1 : base ≤ (w.alloc (.cells #[.string (strB m.base), .slice As m.segs.length cs, .string (strB m.log), .int .i64 m.tx, .int .i64 m.nx] 25)).heap.size := by rw [← hW]; exact hbs0
  have hrX : Rd (w.alloc (.cells #[.string (strB m.base), .slice As m.segs.length cs, .string (strB m.log), .int .i64 m.tx, .int .i64 m.nx] 25)) F 1 (.slice As m.segs.length cs) m.segs.length (sv m.segs) := by rw [← hW]; exact hrW
  have HBW := Lib.hid hbW
  have HF := Lib.hid hF
  by_cases hbe : m.base = []
  · have b1 : (strB m.base).toList.isEmpty = true := by rw [hb1]; exact decide_eq_true hbe
    have HN := Lib.hid (show nmsF m = ([] ++ m.segs) ++ [m.log] by unfold nmsF; rw [if_pos hbe])
    clear hb1 hbe hbase hrW h hF hbW hPW c3 c4
    obtain ⟨i0, hi, hz0, hz1, hz2⟩ := info_parts infoSt
    have hOa : OwnS (w.alloc (.cells #[.string (strB m.base), .slice As m.segs.length cs, .string (strB m.log), .int .i64 m.tx, .int .i64 m.nx] 25)) base (.slice none 0 0) [] := OwnS.nil _ _
    clear hW
    go_enter Tryz.func43, Tryz.ntmps43
    go_wp2_with (at_builtin; first | (refine wpList_append_app _ rfl (.tmp 12) (.tmp 14) 23 rfl base 9 i0 _ 1 16 Tryz.underlying23 hi hz0 hz1 hz2 rfl (by omega) _ 0 (sv []) rfl (.inl hOa) F _ m.segs.length (sv m.segs) rfl hrX (sv_one _) (by unfold maxLen; omega) (by omega) hbs1 ?_; rw [← HW.out]; intro v5 w5 _ h5 hg5 hb5' ha5; have h5 := h5 (.inr (by rw [HW.out]; exact hOa)); obtain ⟨L5, hL5⟩ : ∃ L5, L5 = [] ++ m.segs := ⟨_, rfl⟩; have hO5 : OwnS w5 base v5 L5 := (by rw [hL5]; exact owns_cast (a := []) (b := m.segs) h5); have hln5 : L5.length = [].length + m.segs.length := (by rw [hL5, List.length_append]); have HL5 := Lib.hid hL5; have e2 := (hb5'.cell (p := ⟨w.heap.size, 2, none⟩) hsb).trans d2; clear h5 hg5 ha5 hL5) | (have hbsz : base ≤ w5.heap.size := Nat.le_trans hbs0 hb5'.size; have hnew := rd_str w5 m.log; have hOb : OwnS (w5.alloc (.cells #[.string (strB m.log)] 9)) base v5 L5 := World.ownsRow.alloc hO5 _; have hbs5 : base ≤ (w5.alloc (.cells #[.string (strB m.log)] 9)).heap.size := (by simp; omega); refine wpList_append_app _ rfl (.tmp 16) (.tmp 19) 23 rfl base 9 i0 _ 1 16 Tryz.underlying23 hi hz0 hz1 hz2 rfl (by omega) _ L5.length (sv L5) rfl (.inl hOb) _ _ 1 (sv [m.log]) rfl hnew (sv_one _) (by unfold maxLen; simp at hln5; omega) (by simp at hln5; omega) hbs5 ?_; intro v6 w6 _ h6 hg6 hb6' ha6; have h6 := h6 (.inr hOb); obtain ⟨L6, hL6⟩ : ∃ L6, L6 = L5 ++ [m.log] := ⟨_, rfl⟩; have hO6 : OwnS w6 base v6 L6 := (by rw [hL6]; exact owns_cast (a := L5) (b := [m.log]) h6); have hb6 : Below base W w6 := hb5'.trans (((Below.of_alloc _).mono hbsz).trans hb6'); have HL6 := Lib.hid hL6; clear h6 hg6 ha6 hb6' hOb hnew hbs5 hL6))
    go_ret
    obtain ⟨A6, k6, rfl, c61, c62, c63⟩ := hO6.open_
    have hL : nmsF m = L6 := by rw [HN.out, HL6.out, HL5.out]
    rw [hL]
    exact ⟨A6, k6, rfl, Lib.hid c63, c61, c62, hO6.lower (by omega), HBW.out.trans (hb6.mono (by omega))⟩
  · have b1 : (strB m.base).toList.isEmpty = false := by rw [hb1]; exact decide_eq_false hbe
    have HN := Lib.hid (show nmsF m = ([m.base] ++ m.segs) ++ [m.log] by unfold nmsF; rw [if_neg hbe])
    clear hb1 hbe hbase h hF hbW hPW c3 c4
    obtain ⟨i0, hi, hz0, hz1, hz2⟩ := info_parts infoSt
    have hOa : OwnS ((w.alloc (.cells #[.string (strB m.base), .slice As m.segs.length cs, .string (strB m.log), .int .i64 m.tx, .int .i64 m.nx] 25)).alloc (.cells #[.string (strB m.base)] 9)) base (.slice none 0 0) [] := OwnS.nil _ _
    have hnew := rd_str (w.alloc (.cells #[.string (strB m.base), .slice As m.segs.length cs, .string (strB m.log), .int .i64 m.tx, .int .i64 m.nx] 25)) m.base
    rw [show (w.alloc (.cells #[.string (strB m.base), .slice As m.segs.length cs, .string (strB m.log), .int .i64 m.tx, .int .i64 m.nx] 25)).heap.size = w.heap.size + 1 by simp] at hnew
    have hbs5 : base ≤ ((w.alloc (.cells #[.string (strB m.base), .slice As m.segs.length cs, .string (strB m.log), .int .i64 m.tx, .int .i64 m.nx] 25)).alloc (.cells #[.string (strB m.base)] 9)).heap.size := by rw [← hW]; simp; omega
    clear hW
    go_enter Tryz.func43, Tryz.ntmps43
    go_wp2_with (at_builtin; first | (go_loud (refine wpList_append_app _ rfl (.tmp 7) (.tmp 10) 23 rfl base 9 i0 _ 1 16 Tryz.underlying23 hi hz0 hz1 hz2 rfl (by omega) _ 0 (sv []) rfl (.inl hOa) _ _ 1 (sv [m.base]) rfl hnew (sv_one _) (by unfold maxLen; omega) (by omega) hbs5 ?_; rw [← HW.out]; intro v4 w4 _ h4 hg4 hb4' ha4; have h4 := h4 (.inr (by rw [HW.out]; exact hOa)); have hO4 : OwnS w4 base v4 [m.base] := (by exact owns_cast (a := []) (b := [m.base]) h4); have hb4 : Below base W w4 := ((Below.of_alloc _).mono hbs0).trans hb4'; clear h4 hg4 ha4 hb4' hOa hnew hbs5; have e1 := (hb4.cell (p := ⟨w.heap.size, 1, none⟩) hsb).trans d1; have e2' := (hb4.cell (p := ⟨w.heap.size, 2, none⟩) hsb).trans d2; have hr4 : Rd w4 F 1 (.slice As m.segs.length cs) m.segs.length (sv m.segs) := hrW.keep (fun b hb => hb4.block b (by have := HF.out b hb; omega)); have hbs4 : base ≤ w4.heap.size := Nat.le_trans hbs0 hb4.size; clear hrX hrW c1 c2)) | (refine wpList_append_app _ rfl (.tmp 12) (.tmp 14) 23 rfl base 9 i0 _ 1 16 Tryz.underlying23 hi hz0 hz1 hz2 rfl (by omega) _ 1 (sv [m.base]) rfl (.inl hO4) F _ m.segs.length (sv m.segs) rfl hr4 (sv_one _) (by unfold maxLen; omega) (by omega) hbs4 ?_; intro v5 w5 _ h5 hg5 hb5'' ha5; have hb5' := hb4.trans hb5''; have h5 := h5 (.inr hO4); obtain ⟨L5, hL5⟩ : ∃ L5, L5 = [m.base] ++ m.segs := ⟨_, rfl⟩; have hO5 : OwnS w5 base v5 L5 := (by rw [hL5]; exact owns_cast (a := [m.base]) (b := m.segs) h5); have hln5 : L5.length = [m.base].length + m.segs.length := (by rw [hL5, List.length_append]); have HL5 := Lib.hid hL5; have e2 := (hb5'.cell (p := ⟨w.heap.size, 2, none⟩) hsb).trans d2; clear h5 hg5 ha5 hL5 e1 e2' hr4 hbs4 hb5'' hO4) | (have hbsz : base ≤ w5.heap.size := Nat.le_trans hbs0 hb5'.size; have hnew := rd_str w5 m.log; have hOb : OwnS (w5.alloc (.cells #[.string (strB m.log)] 9)) base v5 L5 := World.ownsRow.alloc hO5 _; have hbs5 : base ≤ (w5.alloc (.cells #[.string (strB m.log)] 9)).heap.size := (by simp; omega); refine wpList_append_app _ rfl (.tmp 16) (.tmp 19) 23 rfl base 9 i0 _ 1 16 Tryz.underlying23 hi hz0 hz1 hz2 rfl (by omega) _ L5.length (sv L5) rfl (.inl hOb) _ _ 1 (sv [m.log]) rfl hnew (sv_one _) (by unfold maxLen; simp at hln5; omega) (by simp at hln5; omega) hbs5 ?_; intro v6 w6 _ h6 hg6 hb6' ha6; have h6 := h6 (.inr hOb); obtain ⟨L6, hL6⟩ : ∃ L6, L6 = L5 ++ [m.log] := ⟨_, rfl⟩; have hO6 : OwnS w6 base v6 L6 := (by rw [hL6]; exact owns_cast (a := L5) (b := [m.log]) h6); have hb6 : Below base W w6 := hb5'.trans (((Below.of_alloc _).mono hbsz).trans hb6'); have HL6 := Lib.hid hL6; clear h6 hg6 ha6 hb6' hOb hnew hbs5 hL6))
    go_ret
    obtain ⟨A6, k6, rfl, c61, c62, c63⟩ := hO6.open_
    have hL : nmsF m = L6 := by rw [HN.out, HL6.out, HL5.out]
    rw [hL]
    exact ⟨A6, k6, rfl, Lib.hid c63, c61, c62, hO6.lower (by omega), HBW.out.trans (hb6.mono (by omega))⟩
end Go.Proofs.YthjephhojngiaaaGreatDoor
