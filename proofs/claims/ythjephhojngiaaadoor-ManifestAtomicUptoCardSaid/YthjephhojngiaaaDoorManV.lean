/-
  Manifests: the walks of ManifestName, ManifestEncode and ManifestDecode.
-/
import Derived.Test.YthjephhojngiaaaDoorManU
namespace Go.Proofs.YthjephhojngiaaaDoor
open Go.RowKit Go.Lib Go.IntWalk

set_option maxRecDepth 100000 in
set_option maxHeartbeats 2000000 in
theorem lawName_any (n : Int) (w : World) (hE : EnvT w) (n1 : -9223372036854775808 ≤ n) (n2 : n ≤ 9223372036854775807) :
    Calls Tryd.prog 3 #[.int .i64 n] w fun e w' => e = .returned (.bool true) ∧ Below w.heap.size w w' := by
  go_enter Tryd.func3, Tryd.ntmps3
  go_wp2_with fail
  (with_reducible refine (mname_any n w hE n1 n2).mono ?_)
  rintro e1 w1 ⟨rfl, hb1⟩
  go_wp2_with fail
  (with_reducible refine (rname_any n w1 n1 n2).mono ?_)
  rintro e2 w2 ⟨rfl, hb2⟩
  have hB2 : Below w.heap.size w w2 := hb1.trans (hb2.mono hb1.size)
  go_wp2_with fail
  (with_reducible refine (mworks_any w2 (hE.below hB2)).mono ?_)
  rintro e3 w3 ⟨rfl, hb3⟩
  go_wp2_with fail
  go_ret
  exact ⟨rfl, hB2.trans (hb3.mono hB2.size)⟩
theorem flat_txE_len (l : List (List UInt8)) : (l.flatMap txE).length ≤ ssum l + 10 * l.length := by
  induction l with
  | nil => simp
  | cons x r ih =>
    have := txE_len x
    rw [List.flatMap_cons, List.length_append, List.length_cons]
    unfold ssum at *
    rw [List.map_cons, List.sum_cons]
    omega
theorem bodyM_le (m : Man) : (bodyM m).length ≤ 11 * mSize m + 60 := by
  have h1 := txE_len m.base
  have h2 := txE_len m.log
  have h3 := flat_txE_len m.segs
  have h4 := encI_length m.segs.length
  have h5 := encI_length m.tx
  have h6 := encI_length m.nx
  unfold bodyM mSize
  simp only [List.length_append]
  omega
theorem nms_le (m : Man) : ∀ s ∈ nmsF m, s.length ≤ mSize m := by
  intro s hs
  unfold nmsF at hs
  unfold mSize
  simp only [List.mem_append, List.mem_singleton] at hs
  rcases hs with (hs | hs) | hs
  · split at hs
    · cases hs
    · simp only [List.mem_singleton] at hs; subst hs; omega
  · have : s.length ≤ ssum m.segs := by
      revert hs
      unfold ssum
      induction m.segs with
      | nil => intro hs; cases hs
      | cons y r ih =>
        intro hs
        rw [List.map_cons, List.sum_cons]
        rcases List.mem_cons.1 hs with rfl | hs
        · omega
        · have := ih hs; omega
    omega
  · subst hs; omega
theorem segs_le (m : Man) : m.segs.length ≤ mSize m := by unfold mSize; omega
set_option maxRecDepth 100000 in
set_option maxHeartbeats 4000000 in
theorem lawEncode_any (As : Option Addr) (cs : Nat) (m : Man) (w : World) (hE : EnvT w) (h : Rd w (· < w.heap.size) 1 (.slice As m.segs.length cs) m.segs.length (sv m.segs)) (hsm : mSize m ≤ 4194304) :
    Calls Tryd.prog 4 #[manV As cs m] w fun e w' => e = .returned (.bool true) ∧ Below w.heap.size w w' := by
  obtain ⟨W, hW⟩ : ∃ W, W = w.alloc (.cells (rowM As cs m) 27) := ⟨_, rfl⟩
  have hbW : Below w.heap.size w W := by rw [hW]; exact Below.of_alloc _
  have hsW : W.heap.size = w.heap.size + 1 := by rw [hW]; simp
  have hPW : W.heap[w.heap.size]? = some (.cells (rowM As cs m) 27 (0, 0)) := by rw [hW]; exact heap_alloc_new w _
  have c0 : W.cell? ⟨w.heap.size, 0, none⟩ = some (.string (strB m.base)) := cell_of_row _ _ 0 _ _ _ hPW
  have c1 : W.cell? ⟨w.heap.size, 1, none⟩ = some (.slice As m.segs.length cs) := cell_of_row _ _ 1 _ _ _ hPW
  have c2 : W.cell? ⟨w.heap.size, 2, none⟩ = some (.string (strB m.log)) := cell_of_row _ _ 2 _ _ _ hPW
  have c3 : W.cell? ⟨w.heap.size, 3, none⟩ = some (.int .i64 m.tx) := cell_of_row _ _ 3 _ _ _ hPW
  have c4 : W.cell? ⟨w.heap.size, 4, none⟩ = some (.int .i64 m.nx) := cell_of_row _ _ 4 _ _ _ hPW
  have hrW : Rd W (· < w.heap.size) 1 (.slice As m.segs.length cs) m.segs.length (sv m.segs) := h.keep fun b hb => hbW.block b hb
  have CL := Lib.hid (large_any (· < w.heap.size) As cs m W hrW (fun b hb => by omega) hsm)
  rw [hW] at c0 c1 c2 c3 c4
  have HW := Lib.hid hW
  obtain ⟨_, _, hce, x1, x2, x3⟩ := Rd.open_ h
  have HX3 := Lib.hid x3
  unfold maxLen at x2
  clear hW h x3 hce x1 x2
  go_enter Tryd.func4, Tryd.ntmps4
  go_wp2_with fail
  rw [← HW.out]
  (with_reducible refine CL.out.mono ?_)
  rintro e1 w1 ⟨b, rfl, hb, hb1⟩
  have hs1 := hb1.size
  have hB1 : Below w.heap.size w w1 := hbW.trans (hb1.mono (by omega))
  cases b with
  | true =>
    go_wp2_with fail
    (with_reducible refine (mworks_any w1 (hE.below hB1)).mono ?_)
    rintro e2 w2 ⟨rfl, hb2⟩
    go_wp2_with fail
    go_ret
    exact ⟨rfl, hB1.trans (hb2.mono hB1.size)⟩
  | false =>
    have hsz := hb.out rfl
    have hbl := bodyM_le m
    have hnl := nms_le m
    have hsl := segs_le m
    have hP1 := (hb1.block _ (by omega)).trans hPW
    have hr1 : Rd w1 (· < w.heap.size) 1 (.slice As m.segs.length cs) m.segs.length (sv m.segs) := hrW.keep fun b hb => hb1.block b (by omega)
    have CE := Lib.hid (encode_any (· < w.heap.size) As cs m w1 hr1 (fun b hb => by omega) (by omega) (fun s hs => by have := hnl s hs; omega) (by omega))
    clear c0 c1 c2 c3 c4
    have c0 : w1.cell? ⟨w.heap.size, 0, none⟩ = some (.string (strB m.base)) := cell_of_row _ _ 0 _ _ _ hP1
    have c1 : w1.cell? ⟨w.heap.size, 1, none⟩ = some (.slice As m.segs.length cs) := cell_of_row _ _ 1 _ _ _ hP1
    have c2 : w1.cell? ⟨w.heap.size, 2, none⟩ = some (.string (strB m.log)) := cell_of_row _ _ 2 _ _ _ hP1
    have c3 : w1.cell? ⟨w.heap.size, 3, none⟩ = some (.int .i64 m.tx) := cell_of_row _ _ 3 _ _ _ hP1
    have c4 : w1.cell? ⟨w.heap.size, 4, none⟩ = some (.int .i64 m.nx) := cell_of_row _ _ 4 _ _ _ hP1
    go_wp2_with fail
    (with_reducible refine CE.out.mono ?_)
    rintro e2 w2 ⟨v2, rfl, hO2, hb2⟩
    have hs2 := hb2.size
    have hP2 := (hb2.block _ (by omega)).trans hP1
    have hr2 : Rd w2 (· < w.heap.size) 1 (.slice As m.segs.length cs) m.segs.length (sv m.segs) := hr1.keep fun b hb => hb2.block b (by omega)
    have CR := Lib.hid (rencode_any (· < w.heap.size) As cs m w2 hr2 (fun b hb => by omega) (by omega) (by omega))
    clear c0 c1 c2 c3 c4 CE
    have c0 : w2.cell? ⟨w.heap.size, 0, none⟩ = some (.string (strB m.base)) := cell_of_row _ _ 0 _ _ _ hP2
    have c1 : w2.cell? ⟨w.heap.size, 1, none⟩ = some (.slice As m.segs.length cs) := cell_of_row _ _ 1 _ _ _ hP2
    have c2 : w2.cell? ⟨w.heap.size, 2, none⟩ = some (.string (strB m.log)) := cell_of_row _ _ 2 _ _ _ hP2
    have c3 : w2.cell? ⟨w.heap.size, 3, none⟩ = some (.int .i64 m.tx) := cell_of_row _ _ 3 _ _ _ hP2
    have c4 : w2.cell? ⟨w.heap.size, 4, none⟩ = some (.int .i64 m.nx) := cell_of_row _ _ 4 _ _ _ hP2
    go_wp2_with fail
    (with_reducible refine CR.out.mono ?_)
    rintro e3 w3 ⟨v3, rfl, hO3, hb3⟩
    clear CR
    have hB3 : Below w.heap.size w w3 := hB1.trans ((hb2.mono hB1.size).trans (hb3.mono (by omega)))
    go_wp2_with fail
    (with_reducible refine (equal_any v2 v3 _ _ _ _ w3 (hO2.rd.below hb3) hO3.rd).mono ?_)
    rintro e4 w4 ⟨rfl, rfl⟩
    rw [beq_self_eq_true]
    go_wp2_with fail
    (with_reducible refine (mworks_any w3 (hE.below hB3)).mono ?_)
    rintro e5 w5 ⟨rfl, hb5⟩
    go_wp2_with fail
    go_ret
    exact ⟨rfl, hB3.trans (hb5.mono hB3.size)⟩
set_option maxRecDepth 100000 in
set_option maxHeartbeats 4000000 in
theorem lawDecode_any (v : Value) (l : List UInt8) (w : World) (hE : EnvT w) (hv : RdB w (· < w.heap.size) v l) :
    Calls Tryd.prog 5 #[v] w fun e w' => e = .returned (.bool true) ∧ Below w.heap.size w w' := by
  obtain ⟨A, c, rfl, cx1, cx2, cx3⟩ := hv.open_
  have HCX := Lib.hid cx3
  unfold maxLen at cx2
  clear cx3
  by_cases hl : 4000 < l.length
  case pos =>
    have b1 : (4000 : Int) < (l.length : Int) := by omega
    go_enter Tryd.func5, Tryd.ntmps5
    go_wp2_with fail
    (with_reducible refine (mworks_any w hE).mono ?_)
    rintro e2 w2 ⟨rfl, hb2⟩
    go_wp2_with fail
    go_ret
    exact ⟨rfl, hb2⟩
  case neg =>
  have b1 : ¬ (4000 : Int) < (l.length : Int) := by omega
  have CD := Lib.hid (decode_any _ l w hv (by omega))
  have CR := fun W : World => fun (hW : Below w.heap.size w W) => Lib.hid (rdecode_any _ l W (hv.below hW) (by omega))
  generalize hr : decM l = r at *
  obtain ⟨m, ce⟩ := r
  have HR := Lib.hid hr
  clear hr
  go_enter Tryd.func5, Tryd.ntmps5
  go_wp2_with fail
  (with_reducible refine CD.out.mono ?_)
  rintro e1 w1 ⟨As, cs, rfl, hO1, hb1⟩
  dsimp only at hO1
  have hs1 := hb1.size
  obtain ⟨X1, hX1⟩ : ∃ X, X = w1.alloc (.cells (rowM As cs m) 27) := ⟨_, rfl⟩
  have hbX1 : Below w1.heap.size w1 X1 := by rw [hX1]; exact Below.of_alloc _
  have hsX1 : X1.heap.size = w1.heap.size + 1 := by rw [hX1]; simp
  have hPX1 : X1.heap[w1.heap.size]? = some (.cells (rowM As cs m) 27 (0, 0)) := by rw [hX1]; exact heap_alloc_new _ _
  have hBX1 : Below w.heap.size w X1 := hb1.trans (hbX1.mono hs1)
  have hOX1 := hO1.below hbX1
  go_wp2_with fail
  rw [← hX1]
  (with_reducible refine (CR X1 hBX1).out.mono ?_)
  rintro e2 w2 ⟨Bs, ds, rfl, hO2, hb2⟩
  dsimp only at hO2
  have hs2 := hb2.size
  obtain ⟨X2, hX2⟩ : ∃ X, X = w2.alloc (.cells (rowM Bs ds m) 27) := ⟨_, rfl⟩
  have hbX2 : Below w2.heap.size w2 X2 := by rw [hX2]; exact Below.of_alloc _
  have hsX2 : X2.heap.size = w2.heap.size + 1 := by rw [hX2]; simp
  have hQX2 : X2.heap[w2.heap.size]? = some (.cells (rowM Bs ds m) 27 (0, 0)) := by rw [hX2]; exact heap_alloc_new _ _
  have hPX2 := (hbX2.block _ (by omega)).trans ((hb2.block _ (by omega)).trans hPX1)
  have hBX2 : Below w.heap.size w X2 := hBX1.trans ((hb2.mono (by omega)).trans (hbX2.mono (by omega)))
  have hOX2 := (hOX1.below hb2).below hbX2
  have hOY2 := hO2.below hbX2
  have CS := Lib.hid (rsame_any (fun b => b < X2.heap.size) (fun b => b < X2.heap.size) As cs m Bs ds m X2 ((Rd.of_own hOX2).wide fun b hb => hb.2) ((Rd.of_own hOY2).wide fun b hb => hb.2) (fun _ h => h) (fun _ h => h))
  rw [decide_eq_true rfl] at CS
  have c0 : X2.cell? ⟨w1.heap.size, 0, none⟩ = some (.string (strB m.base)) := cell_of_row _ _ 0 _ _ _ hPX2
  have c1 : X2.cell? ⟨w1.heap.size, 1, none⟩ = some (.slice As m.segs.length cs) := cell_of_row _ _ 1 _ _ _ hPX2
  have c2 : X2.cell? ⟨w1.heap.size, 2, none⟩ = some (.string (strB m.log)) := cell_of_row _ _ 2 _ _ _ hPX2
  have c3 : X2.cell? ⟨w1.heap.size, 3, none⟩ = some (.int .i64 m.tx) := cell_of_row _ _ 3 _ _ _ hPX2
  have c4 : X2.cell? ⟨w1.heap.size, 4, none⟩ = some (.int .i64 m.nx) := cell_of_row _ _ 4 _ _ _ hPX2
  have d0 : X2.cell? ⟨w2.heap.size, 0, none⟩ = some (.string (strB m.base)) := cell_of_row _ _ 0 _ _ _ hQX2
  have d1 : X2.cell? ⟨w2.heap.size, 1, none⟩ = some (.slice Bs m.segs.length ds) := cell_of_row _ _ 1 _ _ _ hQX2
  have d2 : X2.cell? ⟨w2.heap.size, 2, none⟩ = some (.string (strB m.log)) := cell_of_row _ _ 2 _ _ _ hQX2
  have d3 : X2.cell? ⟨w2.heap.size, 3, none⟩ = some (.int .i64 m.tx) := cell_of_row _ _ 3 _ _ _ hQX2
  have d4 : X2.cell? ⟨w2.heap.size, 4, none⟩ = some (.int .i64 m.nx) := cell_of_row _ _ 4 _ _ _ hQX2
  rw [hX2] at c0 c1 c2 c3 c4 d0 d1 d2 d3 d4
  have HX2 := Lib.hid hX2
  have hnot : ∀ (x : Bool) (w : World), (Op.unary .not (.bool x)).run Tryd.prog w = .ok (.bool (!x)) w := fun _ _ => rfl
  clear hX1 hX2 hO1 hOX1 hPX1 hQX2 CD
  go_wp2_with fail
  rw [← HX2.out]
  (with_reducible refine CS.out.mono ?_)
  rintro e3 w3 ⟨rfl, hb3⟩
  have hs3 := hb3.size
  have hP3 := (hb3.block _ (by omega)).trans hPX2
  have hB3 : Below w.heap.size w w3 := hBX2.trans (hb3.mono (by omega))
  have hO3 := hOX2.below hb3
  clear c0 c1 c2 c3 c4 d0 d1 d2 d3 d4 CS
  by_cases hce : ce = 0
  case neg =>
    have b2 : (ce == 0) = false := by rw [beq_eq_false_iff_ne]; exact hce
    go_wp2_with fail
    (with_reducible refine (mworks_any w3 (hE.below hB3)).mono ?_)
    rintro e5 w5 ⟨rfl, hb5⟩
    go_wp2_with fail
    go_ret
    exact ⟨rfl, hB3.trans (hb5.mono hB3.size)⟩
  case pos =>
    subst hce
    obtain ⟨hck, hle⟩ := decM_got HR.out
    have hbl : (bodyM m).length ≤ l.length := by rw [hle, frm_length]; omega
    have z1 := bodyM_segs m
    have z2 := bodyM_nms m
    have CE := Lib.hid (encode_any (fun b => b < w3.heap.size) As cs m w3 ((Rd.of_own hO3).wide fun b hb => hb.2) (fun b hb => hb) (by omega) (fun s hs => by have := z2 s hs; omega) (by omega))
    rw [show encM m = (frm (bodyM m), 0) from if_pos hck, ← hle] at CE
    have c0 : w3.cell? ⟨w1.heap.size, 0, none⟩ = some (.string (strB m.base)) := cell_of_row _ _ 0 _ _ _ hP3
    have c1 : w3.cell? ⟨w1.heap.size, 1, none⟩ = some (.slice As m.segs.length cs) := cell_of_row _ _ 1 _ _ _ hP3
    have c2 : w3.cell? ⟨w1.heap.size, 2, none⟩ = some (.string (strB m.log)) := cell_of_row _ _ 2 _ _ _ hP3
    have c3 : w3.cell? ⟨w1.heap.size, 3, none⟩ = some (.int .i64 m.tx) := cell_of_row _ _ 3 _ _ _ hP3
    have c4 : w3.cell? ⟨w1.heap.size, 4, none⟩ = some (.int .i64 m.nx) := cell_of_row _ _ 4 _ _ _ hP3
    clear hle hck z1 z2
    go_wp2_with fail
    (with_reducible refine CE.out.mono ?_)
    rintro e4 w4 ⟨v4, rfl, hO4, hb4⟩
    have hB4 : Below w.heap.size w w4 := hB3.trans (hb4.mono hB3.size)
    have hs4 := run_bytes_str hO4.rd
    have hs5 := run_bytes_str (hv.below hB4)
    have hne : ((strB l).toList != (strB l).toList) = false := str_beq rfl
    simp only at hs4
    go_wp2_with fail
    (with_reducible refine (mworks_any w4 (hE.below hB4)).mono ?_)
    rintro e5 w5 ⟨rfl, hb5⟩
    go_wp2_with fail
    go_ret
    exact ⟨rfl, hB4.trans (hb5.mono hB4.size)⟩
end Go.Proofs.YthjephhojngiaaaDoor
