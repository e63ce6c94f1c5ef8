/-
  Manifests: the check.
-/
import Derived.Test.YthjephhojngiaaaGreatDoorManB
namespace Go.Proofs.YthjephhojngiaaaGreatDoor
open Go.RowKit Go.Lib Go.IntWalk

set_option maxRecDepth 100000 in
set_option maxHeartbeats 4000000 in
theorem rnames_any (F : Nat → Prop) (v : Value) (m : Man) (w : World) (h : Rd w F 1 v m.segs.length (sv m.segs)) (hF : ∀ b, F b → b < w.heap.size) (hl : m.segs.length ≤ 1000000) :
    ∀ As cs, v = .slice As m.segs.length cs → Calls Tryz.prog 90 #[manV As cs m] w (NamesOut (nmsF m) w) := by
  intro As cs hv
  subst hv
  obtain ⟨W, hW⟩ : ∃ W, W = w.alloc (.cells #[.string (strB m.base), .slice As m.segs.length cs, .string (strB m.log), .int .i64 m.tx, .int .i64 m.nx] 25) := ⟨_, rfl⟩
  have hbW : Below w.heap.size w W := by rw [hW]; exact Below.of_alloc _
  have hsW : w.heap.size < W.heap.size := by rw [hW]; simp
  have hPW : W.heap[w.heap.size]? = some (.cells #[.string (strB m.base), .slice As m.segs.length cs, .string (strB m.log), .int .i64 m.tx, .int .i64 m.nx] 25 (0, 0)) := by rw [hW]; exact heap_alloc_new w _
  have c0 : W.cell? ⟨w.heap.size, 0, none⟩ = some (.string (strB m.base)) := cell_of_row _ _ 0 _ _ _ hPW
  have c1 : W.cell? ⟨w.heap.size, 1, none⟩ = some (.slice As m.segs.length cs) := cell_of_row _ _ 1 _ _ _ hPW
  have c2 : W.cell? ⟨w.heap.size, 2, none⟩ = some (.string (strB m.log)) := cell_of_row _ _ 2 _ _ _ hPW
  have c3 : W.cell? ⟨w.heap.size, 3, none⟩ = some (.int .i64 m.tx) := cell_of_row _ _ 3 _ _ _ hPW
  have c4 : W.cell? ⟨w.heap.size, 4, none⟩ = some (.int .i64 m.nx) := cell_of_row _ _ 4 _ _ _ hPW
  have d0 := c0; have d1 := c1; have d2 := c2
  rw [hW] at c0 c1 c2
  have hb1 := strB_empty (s := m.base)
  have hrW : Rd W F 1 (.slice As m.segs.length cs) m.segs.length (sv m.segs) := h.keep fun b hb => hbW.block b (hF b hb)
  obtain ⟨base, hbase⟩ : ∃ base, base = W.heap.size := ⟨_, rfl⟩
  have hsb : w.heap.size < base := by omega
  have HBASE := Lib.hid hbase
  have HW := Lib.hid hW
  have hbs0 : base ≤ W.heap.size := by omega
  have hbs1 : base ≤ (w.alloc (.cells #[.string (strB m.base), .slice As m.segs.length cs, .string (strB m.log), .int .i64 m.tx, .int .i64 m.nx] 25)).heap.size := by rw [← hW]; exact hbs0
  have hrX : Rd (w.alloc (.cells #[.string (strB m.base), .slice As m.segs.length cs, .string (strB m.log), .int .i64 m.tx, .int .i64 m.nx] 25)) F 1 (.slice As m.segs.length cs) m.segs.length (sv m.segs) := by rw [← hW]; exact hrW
  have HBW := Lib.hid hbW
  have HF := Lib.hid hF
  by_cases hbe : m.base = []
  · have b1 : (strB m.base).toList.isEmpty = true := by rw [hb1]; exact decide_eq_true hbe
    have HN := Lib.hid (show nmsF m = ([] ++ m.segs) ++ [m.log] by unfold nmsF; rw [if_pos hbe])
    clear hb1 hbe hbase hrW h hF hbW hPW c3 c4
    obtain ⟨i0, hi, hz0, hz1, hz2⟩ := info_parts infoSt
    have hOa : OwnS (w.alloc (.cells #[.string (strB m.base), .slice As m.segs.length cs, .string (strB m.log), .int .i64 m.tx, .int .i64 m.nx] 25)) base (.slice none 0 0) [] := OwnS.nil _ _
    clear hW
    go_enter Tryz.func90, Tryz.ntmps90
    go_wp2_with (at_builtin; first | (refine wpList_append_app _ rfl (.tmp 12) (.tmp 14) 23 rfl base 9 i0 _ 1 16 Tryz.underlying23 hi hz0 hz1 hz2 rfl (by omega) _ 0 (sv []) rfl (.inl hOa) F _ m.segs.length (sv m.segs) rfl hrX (sv_one _) (by unfold maxLen; omega) (by omega) hbs1 ?_; rw [← HW.out]; intro v5 w5 _ h5 hg5 hb5' ha5; have h5 := h5 (.inr (by rw [HW.out]; exact hOa)); obtain ⟨L5, hL5⟩ : ∃ L5, L5 = [] ++ m.segs := ⟨_, rfl⟩; have hO5 : OwnS w5 base v5 L5 := (by rw [hL5]; exact owns_cast (a := []) (b := m.segs) h5); have hln5 : L5.length = [].length + m.segs.length := (by rw [hL5, List.length_append]); have HL5 := Lib.hid hL5; have e2 := (hb5'.cell (p := ⟨w.heap.size, 2, none⟩) hsb).trans d2; clear h5 hg5 ha5 hL5) | (have hbsz : base ≤ w5.heap.size := Nat.le_trans hbs0 hb5'.size; have hnew := rd_str w5 m.log; have hOb : OwnS (w5.alloc (.cells #[.string (strB m.log)] 9)) base v5 L5 := World.ownsRow.alloc hO5 _; have hbs5 : base ≤ (w5.alloc (.cells #[.string (strB m.log)] 9)).heap.size := (by simp; omega); refine wpList_append_app _ rfl (.tmp 16) (.tmp 19) 23 rfl base 9 i0 _ 1 16 Tryz.underlying23 hi hz0 hz1 hz2 rfl (by omega) _ L5.length (sv L5) rfl (.inl hOb) _ _ 1 (sv [m.log]) rfl hnew (sv_one _) (by unfold maxLen; simp at hln5; omega) (by simp at hln5; omega) hbs5 ?_; intro v6 w6 _ h6 hg6 hb6' ha6; have h6 := h6 (.inr hOb); obtain ⟨L6, hL6⟩ : ∃ L6, L6 = L5 ++ [m.log] := ⟨_, rfl⟩; have hO6 : OwnS w6 base v6 L6 := (by rw [hL6]; exact owns_cast (a := L5) (b := [m.log]) h6); have hb6 : Below base W w6 := hb5'.trans (((Below.of_alloc _).mono hbsz).trans hb6'); have HL6 := Lib.hid hL6; clear h6 hg6 ha6 hb6' hOb hnew hbs5 hL6))
    go_ret
    obtain ⟨A6, k6, rfl, c61, c62, c63⟩ := hO6.open_
    have hL : nmsF m = L6 := by rw [HN.out, HL6.out, HL5.out]
    rw [hL]
    exact ⟨A6, k6, rfl, Lib.hid c63, c61, c62, hO6.lower (by omega), HBW.out.trans (hb6.mono (by omega))⟩
  · have b1 : (strB m.base).toList.isEmpty = false := by rw [hb1]; exact decide_eq_false hbe
    have HN := Lib.hid (show nmsF m = ([m.base] ++ m.segs) ++ [m.log] by unfold nmsF; rw [if_neg hbe])
    clear hb1 hbe hbase h hF hbW hPW c3 c4
    obtain ⟨i0, hi, hz0, hz1, hz2⟩ := info_parts infoSt
    have hOa : OwnS ((w.alloc (.cells #[.string (strB m.base), .slice As m.segs.length cs, .string (strB m.log), .int .i64 m.tx, .int .i64 m.nx] 25)).alloc (.cells #[.string (strB m.base)] 9)) base (.slice none 0 0) [] := OwnS.nil _ _
    have hnew := rd_str (w.alloc (.cells #[.string (strB m.base), .slice As m.segs.length cs, .string (strB m.log), .int .i64 m.tx, .int .i64 m.nx] 25)) m.base
    rw [show (w.alloc (.cells #[.string (strB m.base), .slice As m.segs.length cs, .string (strB m.log), .int .i64 m.tx, .int .i64 m.nx] 25)).heap.size = w.heap.size + 1 by simp] at hnew
    have hbs5 : base ≤ ((w.alloc (.cells #[.string (strB m.base), .slice As m.segs.length cs, .string (strB m.log), .int .i64 m.tx, .int .i64 m.nx] 25)).alloc (.cells #[.string (strB m.base)] 9)).heap.size := by rw [← hW]; simp; omega
    clear hW
    go_enter Tryz.func90, Tryz.ntmps90
    go_wp2_with (at_builtin; first | (go_loud (refine wpList_append_app _ rfl (.tmp 7) (.tmp 10) 23 rfl base 9 i0 _ 1 16 Tryz.underlying23 hi hz0 hz1 hz2 rfl (by omega) _ 0 (sv []) rfl (.inl hOa) _ _ 1 (sv [m.base]) rfl hnew (sv_one _) (by unfold maxLen; omega) (by omega) hbs5 ?_; rw [← HW.out]; intro v4 w4 _ h4 hg4 hb4' ha4; have h4 := h4 (.inr (by rw [HW.out]; exact hOa)); have hO4 : OwnS w4 base v4 [m.base] := (by exact owns_cast (a := []) (b := [m.base]) h4); have hb4 : Below base W w4 := ((Below.of_alloc _).mono hbs0).trans hb4'; clear h4 hg4 ha4 hb4' hOa hnew hbs5; have e1 := (hb4.cell (p := ⟨w.heap.size, 1, none⟩) hsb).trans d1; have e2' := (hb4.cell (p := ⟨w.heap.size, 2, none⟩) hsb).trans d2; have hr4 : Rd w4 F 1 (.slice As m.segs.length cs) m.segs.length (sv m.segs) := hrW.keep (fun b hb => hb4.block b (by have := HF.out b hb; omega)); have hbs4 : base ≤ w4.heap.size := Nat.le_trans hbs0 hb4.size; clear hrX hrW c1 c2)) | (refine wpList_append_app _ rfl (.tmp 12) (.tmp 14) 23 rfl base 9 i0 _ 1 16 Tryz.underlying23 hi hz0 hz1 hz2 rfl (by omega) _ 1 (sv [m.base]) rfl (.inl hO4) F _ m.segs.length (sv m.segs) rfl hr4 (sv_one _) (by unfold maxLen; omega) (by omega) hbs4 ?_; intro v5 w5 _ h5 hg5 hb5'' ha5; have hb5' := hb4.trans hb5''; have h5 := h5 (.inr hO4); obtain ⟨L5, hL5⟩ : ∃ L5, L5 = [m.base] ++ m.segs := ⟨_, rfl⟩; have hO5 : OwnS w5 base v5 L5 := (by rw [hL5]; exact owns_cast (a := [m.base]) (b := m.segs) h5); have hln5 : L5.length = [m.base].length + m.segs.length := (by rw [hL5, List.length_append]); have HL5 := Lib.hid hL5; have e2 := (hb5'.cell (p := ⟨w.heap.size, 2, none⟩) hsb).trans d2; clear h5 hg5 ha5 hL5 e1 e2' hr4 hbs4 hb5'' hO4) | (have hbsz : base ≤ w5.heap.size := Nat.le_trans hbs0 hb5'.size; have hnew := rd_str w5 m.log; have hOb : OwnS (w5.alloc (.cells #[.string (strB m.log)] 9)) base v5 L5 := World.ownsRow.alloc hO5 _; have hbs5 : base ≤ (w5.alloc (.cells #[.string (strB m.log)] 9)).heap.size := (by simp; omega); refine wpList_append_app _ rfl (.tmp 16) (.tmp 19) 23 rfl base 9 i0 _ 1 16 Tryz.underlying23 hi hz0 hz1 hz2 rfl (by omega) _ L5.length (sv L5) rfl (.inl hOb) _ _ 1 (sv [m.log]) rfl hnew (sv_one _) (by unfold maxLen; simp at hln5; omega) (by simp at hln5; omega) hbs5 ?_; intro v6 w6 _ h6 hg6 hb6' ha6; have h6 := h6 (.inr hOb); obtain ⟨L6, hL6⟩ : ∃ L6, L6 = L5 ++ [m.log] := ⟨_, rfl⟩; have hO6 : OwnS w6 base v6 L6 := (by rw [hL6]; exact owns_cast (a := L5) (b := [m.log]) h6); have hb6 : Below base W w6 := hb5'.trans (((Below.of_alloc _).mono hbsz).trans hb6'); have HL6 := Lib.hid hL6; clear h6 hg6 ha6 hb6' hOb hnew hbs5 hL6))
    go_ret
    obtain ⟨A6, k6, rfl, c61, c62, c63⟩ := hO6.open_
    have hL : nmsF m = L6 := by rw [HN.out, HL6.out, HL5.out]
    rw [hL]
    exact ⟨A6, k6, rfl, Lib.hid c63, c61, c62, hO6.lower (by omega), HBW.out.trans (hb6.mono (by omega))⟩

def seenG (l : List (List UInt8)) (key : List UInt8) : Option Value := if key ∈ l then some (.bool true) else none
theorem seenG_snoc (l : List (List UInt8)) (x : List UInt8) : updG (seenG l) x (some (.bool true)) = seenG (l ++ [x]) := by
  funext y
  unfold updG seenG
  by_cases h : y = x
  · rw [if_pos h, if_pos (by simp [h])]
  · rw [if_neg h]
    by_cases h2 : y ∈ l
    · rw [if_pos h2, if_pos (by simp [h2])]
    · rw [if_neg h2, if_neg (by simp [h, h2])]
theorem seenG_nil : seenG [] = fun _ => none := by funext y; simp [seenG]
theorem chkL_bad {nx : Int} {l : List (List UInt8)} {k : Nat} {x : List UInt8} (hk : l[k]? = some x) (h : okNm nx x = false) : chkL nx (l.drop k) (l.take k) = 8 := by
  obtain ⟨hl, e⟩ := List.getElem?_eq_some_iff.1 hk
  rw [List.drop_eq_getElem_cons hl, e, chkL, if_pos h]
theorem chkL_dup {nx : Int} {l : List (List UInt8)} {k : Nat} {x : List UInt8} (hk : l[k]? = some x) (h : okNm nx x = true) (h2 : x ∈ l.take k) : chkL nx (l.drop k) (l.take k) = 10 := by
  obtain ⟨hl, e⟩ := List.getElem?_eq_some_iff.1 hk
  rw [List.drop_eq_getElem_cons hl, e, chkL, if_neg (by rw [h]; simp), if_pos h2]
theorem chkL_next {nx : Int} {l : List (List UInt8)} {k : Nat} {x : List UInt8} (hk : l[k]? = some x) (h : okNm nx x = true) (h2 : x ∉ l.take k) : chkL nx (l.drop k) (l.take k) = chkL nx (l.drop (k + 1)) (l.take (k + 1)) := by
  obtain ⟨hl, e⟩ := List.getElem?_eq_some_iff.1 hk
  rw [List.drop_eq_getElem_cons hl, e, chkL, if_neg (by rw [h]; simp), if_neg h2, List.take_succ_eq_append_getElem hl, e]
theorem take_snoc {l : List (List UInt8)} {k : Nat} {x : List UInt8} (hk : l[k]? = some x) : l.take (k + 1) = l.take k ++ [x] := by
  obtain ⟨hl, e⟩ := List.getElem?_eq_some_iff.1 hk
  rw [List.take_succ_eq_append_getElem hl, e]

set_option maxRecDepth 100000 in
set_option maxHeartbeats 8000000 in
theorem check_any (F : Nat → Prop) (As : Option Addr) (cs : Nat) (m : Man) (w : World) (h : Rd w F 1 (.slice As m.segs.length cs) m.segs.length (sv m.segs)) (hF : ∀ b, F b → b < w.heap.size) (hl : m.segs.length ≤ 1000000) (hnl : ∀ s ∈ nmsF m, s.length ≤ 1000000) :
    Calls Tryz.prog 51 #[manV As cs m] w fun e w' => e = .returned (.int .i64 (chkF m)) ∧ Below w.heap.size w w' := by
  obtain ⟨W, hW⟩ : ∃ W, W = w.alloc (.cells #[.string (strB m.base), .slice As m.segs.length cs, .string (strB m.log), .int .i64 m.tx, .int .i64 m.nx] 25) := ⟨_, rfl⟩
  have hbW : Below w.heap.size w W := by rw [hW]; exact Below.of_alloc _
  have hsW : w.heap.size < W.heap.size := by rw [hW]; simp
  have hPW : W.heap[w.heap.size]? = some (.cells #[.string (strB m.base), .slice As m.segs.length cs, .string (strB m.log), .int .i64 m.tx, .int .i64 m.nx] 25 (0, 0)) := by rw [hW]; exact heap_alloc_new w _
  have c0 : W.cell? ⟨w.heap.size, 0, none⟩ = some (.string (strB m.base)) := cell_of_row _ _ 0 _ _ _ hPW
  have c1 : W.cell? ⟨w.heap.size, 1, none⟩ = some (.slice As m.segs.length cs) := cell_of_row _ _ 1 _ _ _ hPW
  have c2 : W.cell? ⟨w.heap.size, 2, none⟩ = some (.string (strB m.log)) := cell_of_row _ _ 2 _ _ _ hPW
  have c3 : W.cell? ⟨w.heap.size, 3, none⟩ = some (.int .i64 m.tx) := cell_of_row _ _ 3 _ _ _ hPW
  have c4 : W.cell? ⟨w.heap.size, 4, none⟩ = some (.int .i64 m.nx) := cell_of_row _ _ 4 _ _ _ hPW
  have d0 := c0; have d1 := c1; have d2 := c2; have d3 := c3; have d4 := c4
  rw [hW] at c0 c1 c2 c3 c4
  have HBX := Lib.hid (show Below w.heap.size w (w.alloc (.cells #[.string (strB m.base), .slice As m.segs.length cs, .string (strB m.log), .int .i64 m.tx, .int .i64 m.nx] 25)) from Below.of_alloc _)
  have HBW := Lib.hid hbW
  have HW := Lib.hid hW
  by_cases h1 : 0 ≤ m.tx
  case neg =>
    rw [show chkF m = 6 from if_neg (by omega)]
    clear hW
    go_enter Tryz.func51, Tryz.ntmps51
    go_wp2_with fail
    go_ret
    exact ⟨rfl, HBX.out⟩
  by_cases h2 : m.tx ≤ 1125899906842624
  case neg =>
    rw [show chkF m = 6 from if_neg (by omega)]
    clear hW
    go_enter Tryz.func51, Tryz.ntmps51
    go_wp2_with fail
    go_ret
    exact ⟨rfl, HBX.out⟩
  by_cases h3 : 1 ≤ m.nx
  case neg =>
    rw [show chkF m = 6 from if_neg (by omega)]
    clear hW
    go_enter Tryz.func51, Tryz.ntmps51
    go_wp2_with fail
    go_ret
    exact ⟨rfl, HBX.out⟩
  by_cases h4 : m.nx ≤ 1000000
  case neg =>
    rw [show chkF m = 6 from if_neg (by omega)]
    clear hW
    go_enter Tryz.func51, Tryz.ntmps51
    go_wp2_with fail
    go_ret
    exact ⟨rfl, HBX.out⟩
  rw [show chkF m = chkL m.nx (nmsF m) [] from if_pos ⟨h1, h2, h3, h4⟩]
  generalize hres : chkL m.nx (nmsF m) [] = res
  have HR := Lib.hid hres
  clear hres
  obtain ⟨V, hV⟩ : ∃ V, V = W.alloc (.map #[] 0) := ⟨_, rfl⟩
  have hbV : Below W.heap.size W V := by rw [hV]; exact Below.of_alloc _
  have hM0 : MapIs V W.heap.size 0 (fun _ => none) := by rw [hV]; exact MapIs.made W
  have e0 := (hbV.cell (p := ⟨w.heap.size, 0, none⟩) hsW).trans d0
  have e1 := (hbV.cell (p := ⟨w.heap.size, 1, none⟩) hsW).trans d1
  have e2 := (hbV.cell (p := ⟨w.heap.size, 2, none⟩) hsW).trans d2
  have e3 := (hbV.cell (p := ⟨w.heap.size, 3, none⟩) hsW).trans d3
  have e4 := (hbV.cell (p := ⟨w.heap.size, 4, none⟩) hsW).trans d4
  have f4 := e4
  have hwV : Below w.heap.size w V := hbW.trans (hbV.mono (by omega))
  have CN := Lib.hid (names_any F _ m V (h.keep fun b hb => hwV.block b (hF b hb)) (fun b hb => Nat.lt_of_lt_of_le (hF b hb) hwV.size) hl As cs rfl)
  rw [hV, hW] at e0 e1 e2 e3 e4
  have HV := Lib.hid (show V = (w.alloc (.cells #[.string (strB m.base), .slice As m.segs.length cs, .string (strB m.log), .int .i64 m.tx, .int .i64 m.nx] 25)).alloc (.map #[] 0) by rw [hV, hW])
  have HSM := Lib.hid (show W.heap.size = w.heap.size + 1 by rw [hW]; simp)
  have HsV := Lib.hid hbV.size
  have hsV1 : W.heap.size < V.heap.size := hM0.lt
  have HWV := Lib.hid hwV
  have hnm : (nmsF m).length ≤ 1000002 := by unfold nmsF; split <;> simp <;> omega
  have HNL := Lib.hid hnl
  clear hW hV hbV hbW hPW hnl h hF d0 d1 d2 d3 d4 hwV
  have hmm : ∀ (t : TypeId) (w : World), (Instr.makeMap t none).run Tryz.prog w = .ok (.map (some w.heap.size)) (w.alloc (.map #[] 0)) := fun _ _ => rfl
  go_enter Tryz.func51, Tryz.ntmps51
  go_wp2_with fail
  rw [← HV.out, ← HSM.out]
  (with_reducible refine CN.out.mono ?_)
  rintro e1 V3 ⟨A, c, rfl, HA, hc1, hc2, hO3, hb3⟩
  clear CN hmm c0 c1 c2 c3 c4 e0 e1 e2 e3 e4
  unfold maxLen at hc2
  obtain ⟨l, hl'⟩ : ∃ l, l = nmsF m := ⟨_, rfl⟩
  rw [← hl'] at hnm HNL hO3 hc1 HR
  rw [← hl']
  clear hl'
  generalize hM : W.heap.size = M at *
  have HM := Lib.hid hM
  clear hM
  generalize hX : w.heap.size = X at *
  have HX := Lib.hid hX
  clear hX
  have hM3 : MapIs V3 M 0 (seenG (l.take 0)) := by rw [List.take_zero, seenG_nil]; exact hM0.block (hb3.block M hM0.lt)
  have g4 := (hb3.cell (p := ⟨X, 4, none⟩) (show X < V.heap.size by omega)).trans f4
  have hrd := Rd.of_own hO3
  have hMV : M < V.heap.size := hM0.lt
  have hs3 := hb3.size
  have HB3 := Lib.hid (HWV.out.trans (hb3.mono (by omega)))
  clear hO3 hM0 hb3 f4
  go_wp2_with fail
  go_loopw [29] (fun i wr => ∃ k : Nat, k ≤ l.length ∧ i = .int .i64 (k : Int) ∧ MapIs wr M k (seenG (l.take k)) ∧ Hid (chkL m.nx (l.drop k) (l.take k) = res) ∧ Chg (· = M) V3 wr) (fun i _ => l.length - (intOf i).toNat)
  case atStart => exact ⟨0, Nat.zero_le _, rfl, hM3, Lib.hid (by rw [List.drop_zero, List.take_zero]; exact HR.out), Chg.refl _ _⟩
  case round =>
    obtain ⟨k, hk, rfl, hMr, HC, hcr⟩ := hrel
    clear hM3
    have hsr := hcr.size
    by_cases hlt : k < l.length
    case pos =>
      have hga : l[k]? = some l[k] := List.getElem?_eq_getElem hlt
      have hlr := hrd.keep (w' := wr) (fun b hb => hcr.block b hb.2 (by have := hb.1; omega))
      obtain ⟨ba, oa, rfl, _, a0⟩ := RdS.elem hlr hga
      have HGA := Lib.hid hga
      have hxl : l[k].length ≤ 1000000 := HNL.out _ (List.getElem_mem hlt)
      clear hga hlr
      generalize l[k] = x at *
      have g4' : wr.cell? ⟨X, 4, none⟩ = some (.int .i64 m.nx) := (World.cell?_of_block (a := ⟨X, 4, none⟩) (hcr.block X (by omega) (by omega))).trans g4
      have CQ := Lib.hid (number_any x (by omega) wr)
      go_wp2_with fail
      (with_reducible refine CQ.out.mono ?_)
      rintro e4 w4 ⟨rfl, hb4⟩
      clear CQ
      have hM4 : MapIs w4 M k (seenG (l.take k)) := hMr.block (hb4.block M hMr.lt)
      have i4 := (hb4.cell (p := ⟨X, 4, none⟩) (show X < wr.heap.size by omega)).trans g4'
      have hcr4 : Chg (· = M) V3 w4 := hcr.then_below hb4
      have hlk := hM4.lookB x (by unfold maxLen; omega)
      have HO := Lib.hid (show okNm m.nx x = decide (1 ≤ numF x ∧ numF x < m.nx) from rfl)
      clear hMr hb4 a0 g4' hcr
      generalize numF x = nm at *
      by_cases h5 : 1 ≤ nm
      case neg =>
        have HW8 := Lib.hid (show res = 8 by rw [← HC.out]; exact chkL_bad HGA.out (by rw [HO.out]; exact decide_eq_false (fun hh => h5 hh.1)))
        go_wp2_with fail
        go_ret
        exact ⟨by rw [HW8.out]; rfl, HX.out ▸ HB3.out.trans (hcr4.below (by omega) (fun i hi => by omega))⟩
      case pos =>
      by_cases h6 : nm < m.nx
      case neg =>
        have HW8 := Lib.hid (show res = 8 by rw [← HC.out]; exact chkL_bad HGA.out (by rw [HO.out]; exact decide_eq_false (fun hh => h6 hh.2)))
        go_wp2_with fail
        go_ret
        exact ⟨by rw [HW8.out]; rfl, HX.out ▸ HB3.out.trans (hcr4.below (by omega) (fun i hi => by omega))⟩
      case pos =>
      have HOK := Lib.hid (show okNm m.nx x = true by rw [HO.out]; exact decide_eq_true ⟨h5, h6⟩)
      by_cases hin : x ∈ l.take k
      · have HW8 := Lib.hid (show res = 10 by rw [← HC.out]; exact chkL_dup HGA.out HOK.out hin)
        rw [show (seenG (l.take k) x).getD (.bool false) = .bool true by unfold seenG; rw [if_pos hin]; rfl] at hlk
        clear hin
        go_wp2_with fail
        go_ret
        exact ⟨by rw [HW8.out]; rfl, HX.out ▸ HB3.out.trans (hcr4.below (by omega) (fun i hi => by omega))⟩
      · have HN := Lib.hid (show chkL m.nx (l.drop (k + 1)) (l.take (k + 1)) = res by rw [← chkL_next HGA.out HOK.out hin]; exact HC.out)
        rw [show (seenG (l.take k) x).getD (.bool false) = .bool false by unfold seenG; rw [if_neg hin]; rfl] at hlk
        clear hin
        go_wp2_with (at_mapUpdate; go_loud (refine wpList_mputB rfl (.tmp 46) (.tmp 47) (.const (.bool true)) rfl M k _ rfl hM4 (by unfold maxLen; omega) x (by unfold maxLen; omega) rfl (.bool true) rfl ?_); intro w5 hM5 hc5; rw [seenG_snoc, ← take_snoc HGA.out] at hM5)
        have hcr5 : Chg (· = M) V3 w5 := hcr4.trans hc5 (fun i _ h => h)
        go_roundw
        case rel => exact ⟨k + 1, by omega, by go_num, hM5, HN, hcr5⟩
        case measure => simp [intOf]; omega
    case neg =>
    have HW0 := Lib.hid (show res = 0 by rw [← HC.out, List.drop_eq_nil_of_le (by omega)]; rfl)
    go_wp2_with fail
    go_ret
    exact ⟨by rw [HW0.out]; rfl, HX.out ▸ HB3.out.trans (hcr.below (by omega) (fun i hi => by omega))⟩
end Go.Proofs.YthjephhojngiaaaGreatDoor
