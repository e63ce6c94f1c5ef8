/-
  The nil disk; the walk of DiskLoad.
-/
import Derived.Test.YtooojgokkigncaaRefK
namespace Go.Proofs.Ytooojgokkigncaa
open Go.RowKit Go.Lib Go.IntWalk

set_option maxHeartbeats 1000000 in
theorem nil_sync (w : World) : Calls Try.prog 21 #[.pointer none] w fun e w' => (∃ u, e = .returned u) ∧ w = w' := by
  go_enter Try.func21, Try.ntmps21
  go_wp2_with fail
  go_end0
  exact ⟨⟨_, rfl⟩, rfl⟩
set_option maxHeartbeats 1000000 in
theorem nil_crash (k t : Int) (w : World) : Calls Try.prog 18 #[.pointer none, .int .i64 k, .int .i64 t] w fun e w' => (∃ u, e = .returned u) ∧ w = w' := by
  go_enter Try.func18, Try.ntmps18
  go_wp2_with fail
  first | go_end0 | (refine bodyPost_ret (results_none rfl _ _ _) rfl ?_)
  exact ⟨⟨_, rfl⟩, rfl⟩
set_option maxHeartbeats 1000000 in
theorem nil_read (s : ByteArray) (w : World) : Calls Try.prog 22 #[.pointer none, .string s] w fun e w' => e = .returned (.tuple #[.slice none 0 0, .bool false]) ∧ w = w' := by
  go_enter Try.func22, Try.ntmps22
  go_wp2_with fail
  go_ret2
  exact ⟨rfl, rfl⟩
set_option maxHeartbeats 1000000 in
theorem nil_append (s : ByteArray) (v : Value) (w : World) : Calls Try.prog 23 #[.pointer none, .string s, v] w fun e w' => e = .returned (.int .i64 0) ∧ w = w' := by
  go_enter Try.func23, Try.ntmps23
  go_wp2_with fail
  go_ret
  exact ⟨rfl, rfl⟩
set_option maxHeartbeats 1000000 in
theorem nil_remove (s : ByteArray) (w : World) : Calls Try.prog 24 #[.pointer none, .string s] w fun e w' => e = .returned (.int .i64 0) ∧ w = w' := by
  go_enter Try.func24, Try.ntmps24
  go_wp2_with fail
  go_ret
  exact ⟨rfl, rfl⟩
set_option maxHeartbeats 1000000 in
theorem nil_rename (s t : ByteArray) (w : World) : Calls Try.prog 25 #[.pointer none, .string s, .string t] w fun e w' => e = .returned (.int .i64 0) ∧ w = w' := by
  go_enter Try.func25, Try.ntmps25
  go_wp2_with fail
  go_ret
  exact ⟨rfl, rfl⟩
set_option maxHeartbeats 1000000 in
theorem nil_files (w : World) : Calls Try.prog 26 #[.pointer none] w fun e w' => e = .returned (.slice none 0 0) ∧ w = w' := by
  go_enter Try.func26, Try.ntmps26
  go_wp2_with fail
  go_ret
  exact ⟨rfl, rfl⟩
set_option maxHeartbeats 1000000 in
theorem nil_view (w : World) : Calls Try.prog 27 #[.pointer none] w fun e w' => e = .returned (.slice none 0 0) ∧ w = w' := by
  go_enter Try.func27, Try.ntmps27
  go_wp2_with fail
  go_ret
  exact ⟨rfl, rfl⟩
set_option maxHeartbeats 1000000 in
theorem nil_pending (w : World) : Calls Try.prog 17 #[.pointer none] w fun e w' => e = .returned (.int .i64 0) ∧ w = w' := by
  go_enter Try.func17, Try.ntmps17
  go_wp2_with fail
  go_ret
  exact ⟨rfl, rfl⟩

set_option maxRecDepth 100000 in
set_option maxHeartbeats 8000000 in
theorem lawLoad_any (vf dv : Value) (fl : FL) (q : LOp) (w : World) (hf : FlsRd w.heap.size w vf fl) (hd : RdB w (· < w.heap.size) dv q.data) (hl : flsum fl + fl.length ≤ 1048576) (hnl : ∀ p ∈ fl, p.1.length ≤ maxLen) :
    Calls Try.prog 4 #[vf, .agg #[.int .i64 q.kind, .string (strB q.name), .string (strB q.to), dv, .int .i64 q.keep, .int .i64 q.torn]] w fun e w' => e = .returned (.bool true) ∧ Below w.heap.size w w' := by
  obtain ⟨kd, nm, to, data, kp, tn⟩ := q
  simp only at *
  have hB0 : w.heap.size ≤ w.heap.size := Nat.le_refl _
  generalize hBe : w.heap.size = B at hB0 hf
  have HBE := Lib.hid hBe
  have hB0 : B ≤ w.heap.size := by omega
  clear hBe
  obtain ⟨X, x, rfl, x1, x2, x3⟩ := Rd.open_ hd
  clear x3
  have hl1 : flsum fl ≤ 1099511627776 := by omega
  have hl2 : fl.length ≤ 1099511627776 := by omega
  have HC1 := Lib.hid (fun (w1 : World) (h : Below w.heap.size w w1) => dload_any B vf fl w1 (by have := h.size; omega) (hf.below hB0 h) hl1 hl2 hnl)
  have HC2 := Lib.hid (fun (w1 : World) (h : Below w.heap.size w w1) => rload_any B vf fl w1 (by have := h.size; omega) (hf.below hB0 h) hl1 hl2 hnl)
  have HCL := Lib.hid (fun (w1 : World) (h : Below w.heap.size w w1) => dlarge_any B vf (.slice none 0 0) fl [] w1 (by have := h.size; omega) (hf.below hB0 h) ⟨[], rfl, Rd.nil _ _ _, fun p hp => by cases hp⟩ (by simp [losum]; omega))
  clear hnl
  generalize hres : loadF fl (fun _ => none) = res at *
  clear hres
  obtain ⟨W, hW⟩ : ∃ W, W = w.alloc (.cells #[.int .i64 kd, .string (strB nm), .string (strB to), .slice X data.length x, .int .i64 kp, .int .i64 tn] 38) := ⟨_, rfl⟩
  have hb0 : Below w.heap.size w W := by rw [hW]; exact Below.of_alloc _
  have k1 : W.cell? ⟨w.heap.size, 1, none⟩ = some (.string (strB nm)) := by rw [hW]; exact box_cell w _ _ 1 rfl
  have k2 : W.cell? ⟨w.heap.size, 2, none⟩ = some (.string (strB to)) := by rw [hW]; exact box_cell w _ _ 2 rfl
  have k3 : W.cell? ⟨w.heap.size, 3, none⟩ = some (.slice X data.length x) := by rw [hW]; exact box_cell w _ _ 3 rfl
  have k4 : W.cell? ⟨w.heap.size, 4, none⟩ = some (.int .i64 kp) := by rw [hW]; exact box_cell w _ _ 4 rfl
  have k5 : W.cell? ⟨w.heap.size, 5, none⟩ = some (.int .i64 tn) := by rw [hW]; exact box_cell w _ _ 5 rfl
  have HW := Lib.hid hW
  clear hW
  go_enter Try.func4, Try.ntmps4
  go_wp2_with fail
  rw [← HW.out]
  (with_reducible refine (nil_sync W).mono ?_)
  rintro e W' ⟨⟨u, rfl⟩, rfl⟩
  go_wp2_with fail
  (with_reducible refine (nil_crash kp tn W).mono ?_)
  rintro e W' ⟨⟨u', rfl⟩, rfl⟩
  go_wp2_with fail
  (with_reducible refine (nil_read _ W).mono ?_)
  rintro e W' ⟨rfl, rfl⟩
  go_wp2_with fail
  (with_reducible refine (nil_append _ _ W).mono ?_)
  rintro e W' ⟨rfl, rfl⟩
  go_wp2_with fail
  (with_reducible refine (nil_remove _ W).mono ?_)
  rintro e W' ⟨rfl, rfl⟩
  go_wp2_with fail
  (with_reducible refine (nil_rename _ _ W).mono ?_)
  rintro e W' ⟨rfl, rfl⟩
  go_wp2_with fail
  (with_reducible refine (nil_files W).mono ?_)
  rintro e W' ⟨rfl, rfl⟩
  go_wp2_with fail
  (with_reducible refine (nil_view W).mono ?_)
  rintro e W' ⟨rfl, rfl⟩
  go_wp2_with fail
  (with_reducible refine (nil_pending W).mono ?_)
  rintro e W' ⟨rfl, rfl⟩
  go_wp2_with fail
  (with_reducible refine (HCL.out W hb0).mono ?_)
  rintro e w1 ⟨bg, rfl, hbg, hb1⟩
  clear HCL k1 k2 k3 k4 k5
  have hs0 := hb0.size
  have hW1 : Below w.heap.size w w1 := hb0.trans (hb1.mono hs0)
  have hs1 := hW1.size
  cases bg with
  | true =>
    go_wp2_with fail
    (with_reducible refine (dworks_any w1).mono ?_)
    rintro e w5 ⟨rfl, hb5⟩
    go_wp2_with fail
    go_ret
    exact ⟨rfl, HBE.out ▸ hW1.trans (hb5.mono hs1)⟩
  | false =>
  clear hbg
  go_wp2_with fail
  (with_reducible refine (HC1.out w1 hW1).mono ?_)
  rintro e w2 ⟨hb2, hR2⟩
  clear HC1
  have hW2 : Below w.heap.size w w2 := hW1.trans (hb2.mono hs1)
  have hs2 := hb2.size
  cases res with
  | none =>
    obtain rfl : e = .returned (.pointer none) := hR2
    go_wp2_with fail
    (with_reducible refine (HC2.out w2 hW2).mono ?_)
    rintro e w3 ⟨hb3, hR3⟩
    clear HC2
    obtain rfl : e = .returned (.tuple #[.agg #[.slice none 0 0, .slice none 0 0], .bool false]) := hR3
    have hW3 : Below w.heap.size w (w3.alloc (.cells #[.slice none 0 0, .slice none 0 0] 49)) := (hW2.trans (hb3.mono hW2.size)).trans ((Below.of_alloc _).mono (by have := hb3.size; omega))
    go_wp2_with fail
    (with_reducible refine (dworks_any _).mono ?_)
    rintro e w5 ⟨rfl, hb5⟩
    go_wp2_with fail
    go_ret
    exact ⟨rfl, HBE.out ▸ hW3.trans (hb5.mono hW3.size)⟩
  | some fm =>
    obtain ⟨D, rfl, hDl, hD2⟩ : ∃ D, e = .returned (.pointer (some ⟨D, 0, none⟩)) ∧ w1.heap.size ≤ D ∧ DiskAt B (flsum fl + fl.length) w2 D none fm [] := hR2
    go_wp2_with fail
    (with_reducible refine (HC2.out w2 hW2).mono ?_)
    rintro e w3 ⟨hb3, hR3⟩
    clear HC2
    have hs3 := hb3.size
    obtain ⟨lv, fl2, rfl, hF3, hI3, hz3⟩ : ∃ lv fl', e = .returned (.tuple #[.agg #[lv, .slice none 0 0], .bool true]) ∧ FlsRd B w3 lv fl' ∧ IsL fm fl' ∧ RSz (flsum fl + fl.length) fl' [] := hR3
    have hBo3 : Both B (flsum fl + fl.length) w3 D none lv (.slice none 0 0) := ⟨fm, [], fl2, hD2.below (by omega) hb3, hF3, DosRd.nil _ _, hI3, trivial, hz3⟩
    obtain ⟨Al, cl, rfl, l1, l2, l3⟩ := hF3.open_
    have HL3 := Lib.hid l3
    clear l3 hD2 hI3 hz3
    generalize hn3 : fl2.length = n3 at *
    clear hn3 hF3
    have hb4 : Below w3.heap.size w3 (w3.alloc (.cells #[.slice Al n3 cl, .slice none 0 0] 49)) := Below.of_alloc _
    have y0 := box_cell w3 #[.slice Al n3 cl, .slice none 0 0] 49 0 rfl
    have y1 := box_cell w3 #[.slice Al n3 cl, .slice none 0 0] 49 1 rfl
    have hBo4 := hBo3.below (by omega) hb4
    have hs4 := hb4.size
    have hW4 : Below w.heap.size w (w3.alloc (.cells #[.slice Al n3 cl, .slice none 0 0] 49)) := (hW2.trans (hb3.mono hW2.size)).trans (hb4.mono (by omega))
    have CS := Lib.hid (dsame34_any B (flsum fl + fl.length) D none _ _ _ (by omega) hBo4 (by omega))
    clear hBo3 hBo4
    go_wp2_with fail
    (with_reducible refine CS.out.mono ?_)
    rintro e w5 ⟨rfl, hb5⟩
    clear CS
    have hW5 := hW4.trans (hb5.mono hW4.size)
    go_wp2_with fail
    (with_reducible refine (dworks_any w5).mono ?_)
    rintro e w6 ⟨rfl, hb6⟩
    go_wp2_with fail
    go_ret
    exact ⟨rfl, HBE.out ▸ hW5.trans (hb6.mono hW5.size)⟩
end Go.Proofs.Ytooojgokkigncaa
