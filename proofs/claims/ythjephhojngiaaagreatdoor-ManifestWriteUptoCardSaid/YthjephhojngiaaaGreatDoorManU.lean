/-
  Manifests: the chapter's examples.
-/
import Derived.Test.YthjephhojngiaaaGreatDoorManT
import Derived.Test.YthjephhojngiaaaGreatDoorManS0
import Derived.Test.YthjephhojngiaaaGreatDoorManR
namespace Go.Proofs.YthjephhojngiaaaGreatDoor
open Go.RowKit Go.Lib Go.IntWalk

def nmA : List UInt8 := [102, 48, 48, 48, 48, 48, 49]
def nmB : List UInt8 := [102, 48, 48, 48, 48, 48, 50]
def exA : Man := ⟨[], [], nmA, 0, 2⟩
def exB : Man := ⟨[], [], nmB, 0, 2⟩
theorem exA_chk : chkF exA = 0 := by decide +kernel
theorem exB_chk : chkF exB = 8 := by decide +kernel
theorem exA_len : (frm (bodyM exA)).length = 20 := by rw [frm_length]; decide +kernel
theorem exA_drop : strB ((frm (bodyM exA)).drop 8) = ⟨#[0, 0, 14, 102, 48, 48, 48, 48, 48, 49, 0, 4]⟩ := by
  have : (frm (bodyM exA)).drop 8 = bodyM exA := by
    unfold frm
    rw [← List.append_assoc]
    exact List.drop_left' (by simp [be4_length])
  rw [this]
  decide +kernel
theorem exA_body : (bodyM exA).length = 12 := by decide +kernel
theorem exA_dec : decM (frm (bodyM exA)) = (exA, 0) := decM_put exA_chk (by rw [exA_body]; omega)
theorem exA_val : manV none 0 exA = .agg #[.string ⟨#[]⟩, .slice none 0 0, .string ⟨#[102, 48, 48, 48, 48, 48, 49]⟩, .int .i64 0, .int .i64 2] := rfl
theorem exB_val : manV none 0 exB = .agg #[.string ⟨#[]⟩, .slice none 0 0, .string ⟨#[102, 48, 48, 48, 48, 48, 50]⟩, .int .i64 0, .int .i64 2] := rfl
theorem name7 : strB (nameF 7) = ⟨#[102, 48, 48, 48, 48, 48, 55]⟩ := by decide +kernel
theorem name0 : strB (nameF 0) = ⟨#[]⟩ := by decide +kernel
theorem str_tail {w : World} {F : Nat → Prop} {A : Option Addr} {c n k : Nat} {l : List UInt8} (hn : l.length = n) (h : RdB w F (.slice A n c) l) (hk : k ≤ n) :
    (convert 51 9 (.slice (cutA A c k 1) (n - k) (c - k))).run Tryz.prog w = .ok (.string (strB (l.drop k))) w := by
  subst hn
  have hc : l.length ≤ c := by obtain ⟨_, _, e, h2, _⟩ := Rd.open_ h; injection e with _ _ e; subst e; exact h2
  have h2 := Rd.cut' h hk (Nat.le_refl _) hc (Nat.le_refl _)
  have h3 : RdB w F (.slice (cutA A c k 1) (l.length - k) (c - k)) (l.drop k) := by
    unfold RdB
    rw [List.length_drop]
    have e : bv (l.drop k) = ((bv l).drop (k * 1)).take ((l.length - k) * 1) := by
      rw [List.take_of_length_le (by rw [List.length_drop, bv_length]; omega), Nat.mul_one]
      simp [bv, List.map_drop]
    rw [e]
    exact h2
  exact run_bytes_str h3
theorem EnvT.lower {w w' : World} (h : EnvT w) (hb : Below w.heap.size w w') : EnvT w' := h.below hb
set_option maxRecDepth 100000 in
set_option maxHeartbeats 4000000 in
theorem mworks_any (w : World) (hE : EnvT w) : Calls Tryz.prog 12 #[] w fun e w' => e = .returned (.bool true) ∧ Below w.heap.size w w' := by
  obtain ⟨W, hW⟩ : ∃ W, W = w.alloc (.cells #[.string ⟨#[]⟩, .slice none 0 0, .string ⟨#[102, 48, 48, 48, 48, 48, 49]⟩, .int .i64 0, .int .i64 2] 25) := ⟨_, rfl⟩
  have hbW : Below w.heap.size w W := by rw [hW]; exact Below.of_alloc _
  have hsW : W.heap.size = w.heap.size + 1 := by rw [hW]; simp
  have hPW : W.heap[w.heap.size]? = some (.cells (rowM none 0 exA) 25 (0, 0)) := by rw [hW]; exact heap_alloc_new w _
  have c0 : W.cell? ⟨w.heap.size, 0, none⟩ = some (.string ⟨#[]⟩) := cell_of_row _ _ 0 _ _ _ hPW
  have c1 : W.cell? ⟨w.heap.size, 1, none⟩ = some (.slice none 0 0) := cell_of_row _ _ 1 _ _ _ hPW
  have c2 : W.cell? ⟨w.heap.size, 2, none⟩ = some (.string ⟨#[102, 48, 48, 48, 48, 48, 49]⟩) := cell_of_row _ _ 2 _ _ _ hPW
  have c3 : W.cell? ⟨w.heap.size, 3, none⟩ = some (.int .i64 0) := cell_of_row _ _ 3 _ _ _ hPW
  have c4 : W.cell? ⟨w.heap.size, 4, none⟩ = some (.int .i64 2) := cell_of_row _ _ 4 _ _ _ hPW
  rw [hW] at c0 c1 c2 c3 c4
  have CE := Lib.hid (encode_any (fun _ => False) none 0 exA W (Rd.nil _ _ _) (fun _ h => h.elim) (by decide) (by decide +kernel) (by rw [exA_body]; omega))
  have CF := fun (w1 : World) => Lib.hid (encode_any (fun _ => False) none 0 exB w1 (Rd.nil _ _ _) (fun _ h => h.elim) (by decide) (by decide +kernel) (by decide +kernel))
  rw [show encM exA = (frm (bodyM exA), 0) from if_pos exA_chk] at CE
  have hxb : encM exB = ([], 8) := by unfold encM; rw [if_neg (by rw [exB_chk]; decide), exB_chk]
  simp only [hxb] at CF
  rw [exA_val] at CE
  simp only [exB_val] at CF
  have HW := Lib.hid hW
  clear hW
  generalize hH : w.heap.size = H at *
  have HH := Lib.hid hH
  clear hH hxb
  go_enter Tryz.func12, Tryz.ntmps12
  go_wp2_with fail
  rw [← HW.out]
  (with_reducible refine CE.out.mono ?_)
  rintro e1 w1 ⟨v1, rfl, hO1, hb1⟩
  clear CE
  have hs1 := hb1.size
  go_wp2_with fail
  (with_reducible refine (CF w1).out.mono ?_)
  rintro e2 w2 ⟨v2, rfl, _, hb2⟩
  clear CF
  have hs2 := hb2.size
  have hd2 : DatB H w2 v1 (frm (bodyM exA)) := (DatB.of_own hO1).below (by omega) hb2
  have hB2 : Below H w w2 := hbW.trans ((hb1.mono (by omega)).trans (hb2.mono (by omega)))
  have hP2 := (hb2.block H (by omega)).trans ((hb1.block H (by omega)).trans hPW)
  clear hO1 hb1 hb2 hPW hbW c0 c1 c2 c3 c4
  go_wp2_with fail
  (with_reducible refine (dnew_any H w2 (by omega)).mono ?_)
  rintro e3 w3 ⟨D, rfl, hDl, hD3, hb3⟩
  have hs3 := hb3.size
  have hd3 : DatB H w3 v1 (frm (bodyM exA)) := hd2.below (by omega) hb3
  have hB3 : Below H w w3 := hB2.trans (hb3.mono (by omega))
  have hP3 := (hb3.block H (by omega)).trans hP2
  have c0 : w3.cell? ⟨H, 0, none⟩ = some (.string ⟨#[]⟩) := cell_of_row _ _ 0 _ _ _ hP3
  have c1 : w3.cell? ⟨H, 1, none⟩ = some (.slice none 0 0) := cell_of_row _ _ 1 _ _ _ hP3
  have c2 : w3.cell? ⟨H, 2, none⟩ = some (.string ⟨#[102, 48, 48, 48, 48, 48, 49]⟩) := cell_of_row _ _ 2 _ _ _ hP3
  have c3 : w3.cell? ⟨H, 3, none⟩ = some (.int .i64 0) := cell_of_row _ _ 3 _ _ _ hP3
  have c4 : w3.cell? ⟨H, 4, none⟩ = some (.int .i64 2) := cell_of_row _ _ 4 _ _ _ hP3
  clear hd2 hB2 hP2 hb3
  have CW := Lib.hid (mwrite_any H 0 D none (fun _ => none) [] (fun _ => False) none 0 exA w3 (by omega) hD3 (by omega) (Rd.nil _ _ _) (fun _ h => h.elim) (by decide) (by decide +kernel) (by rw [exA_body]; omega))
  rw [exA_val] at CW
  rw [HH.out]
  go_wp2_with fail
  (with_reducible refine CW.out.mono ?_)
  rintro e4 w4 ⟨hen, _, hw4⟩
  obtain ⟨hD4, hc4⟩ := hw4 exA_chk
  rw [exA_chk] at hen
  subst hen
  rw [exA_body] at hD4
  have hs4 := hc4.size
  have hd4 : DatB H w4 v1 (frm (bodyM exA)) := hd3.chg (by omega) hc4 hD3.br
  have hB4 : Below H w w4 := hB3.trans (hc4.below (by omega) (fun i hi => hD3.ge hi))
  have hP4 := (hc4.block H (by omega) (fun h => by rcases h with h | h; omega; cases h)).trans hP3
  clear CW hw4 hc4 hd3 hB3 hP3 hD3 c0 c1 c2 c3 c4
  have hv4 : viewF (wrF (viewF (fun _ => none) []) (frm (bodyM exA))) [] fileN = some (frm (bodyM exA)) := rfl
  have CR := Lib.hid (mread_any H (0 + 12 + 20) D none _ [] w4 (by omega) hD4 (by omega) (by intro l hl; rw [hv4] at hl; injection hl with hl; subst hl; rw [exA_len]; omega))
  have hrf : readF (some (frm (bodyM exA))) = (exA, true, 0) := by unfold readF; simp only [exA_dec]; rfl
  rw [hv4, hrf] at CR
  go_wp2_with fail
  (with_reducible refine CR.out.mono ?_)
  rintro e5 w5 ⟨As, cs, rfl, hO5, hb5⟩
  rw [show manV As cs (exA, true, (0 : Int)).1 = .agg #[.string ⟨#[]⟩, .slice As 0 cs, .string ⟨#[102, 48, 48, 48, 48, 48, 49]⟩, .int .i64 0, .int .i64 2] from rfl]
  simp only at hO5
  clear CR hv4 hrf
  have hs5 := hb5.size
  have hd5 : DatB H w5 v1 (frm (bodyM exA)) := hd4.below (by omega) hb5
  have hD5 := hD4.below (by omega) hb5
  have hB5 : Below H w w5 := hB4.trans (hb5.mono (by omega))
  have hP5 := (hb5.block H (by omega)).trans hP4
  obtain ⟨X, hX⟩ : ∃ X, X = w5.alloc (.cells (rowM As cs exA) 25) := ⟨_, rfl⟩
  have hbX : Below w5.heap.size w5 X := by rw [hX]; exact Below.of_alloc _
  have hPX : X.heap[w5.heap.size]? = some (.cells (rowM As cs exA) 25 (0, 0)) := by rw [hX]; exact heap_alloc_new _ _
  have hsX : X.heap.size = w5.heap.size + 1 := by rw [hX]; simp
  have hX' : w5.alloc (.cells #[.string ⟨#[]⟩, .slice As 0 cs, .string ⟨#[102, 48, 48, 48, 48, 48, 49]⟩, .int .i64 0, .int .i64 2] 25) = X := hX.symm
  have HX := Lib.hid hX'
  have hEX : EnvT X := hE.below (by rw [HH.out]; exact hB5.trans (hbX.mono (by omega)))
  have CN7 := Lib.hid (mname_any 7 X hEX (by omega) (by omega))
  rw [name7] at CN7
  have hd6 : DatB H X v1 (frm (bodyM exA)) := hd5.below (by omega) hbX
  have hD6 := hD5.below (by omega) hbX
  have hP6 := (hbX.block H (by omega)).trans hP5
  have hO6 := hO5.below hbX
  clear hX hX' hd4 hd5 hD4 hD5 hP4 hP5 hO5
  go_wp2_with fail
  rw [HX.out]
  (with_reducible refine CN7.out.mono ?_)
  rintro e7 w7 ⟨rfl, hb7⟩
  have hs7 := hb7.size
  have CN0 := Lib.hid (mname_any 0 w7 (hEX.below hb7) (by omega) (by omega))
  rw [name0] at CN0
  go_wp2_with fail
  (with_reducible refine CN0.out.mono ?_)
  rintro e8 w8 ⟨rfl, hb8⟩
  have hs8 := hb8.size
  have hd8 : DatB H w8 v1 (frm (bodyM exA)) := (hd6.below (by omega) hb7).below (by omega) hb8
  have hD8 := (hD6.below (by omega) hb7).below (by omega) hb8
  have hP8 := (hb8.block H (by omega)).trans ((hb7.block H (by omega)).trans hP6)
  have hR8 := (hb8.block _ (by omega)).trans ((hb7.block _ (by omega)).trans hPX)
  have hO8 := (hO6.below hb7).below hb8
  have hB8 : Below H w w8 := hB5.trans ((hbX.mono (by omega)).trans ((hb7.mono (by omega)).trans (hb8.mono (by omega))))
  have c0 : w8.cell? ⟨H, 0, none⟩ = some (.string ⟨#[]⟩) := cell_of_row _ _ 0 _ _ _ hP8
  have c1 : w8.cell? ⟨H, 1, none⟩ = some (.slice none 0 0) := cell_of_row _ _ 1 _ _ _ hP8
  have c2 : w8.cell? ⟨H, 2, none⟩ = some (.string ⟨#[102, 48, 48, 48, 48, 48, 49]⟩) := cell_of_row _ _ 2 _ _ _ hP8
  have c3 : w8.cell? ⟨H, 3, none⟩ = some (.int .i64 0) := cell_of_row _ _ 3 _ _ _ hP8
  have c4 : w8.cell? ⟨H, 4, none⟩ = some (.int .i64 2) := cell_of_row _ _ 4 _ _ _ hP8
  have k0 : w8.cell? ⟨w5.heap.size, 0, none⟩ = some (.string ⟨#[]⟩) := cell_of_row _ _ 0 _ _ _ hR8
  have k1 : w8.cell? ⟨w5.heap.size, 1, none⟩ = some (.slice As 0 cs) := cell_of_row _ _ 1 _ _ _ hR8
  have k2 : w8.cell? ⟨w5.heap.size, 2, none⟩ = some (.string ⟨#[102, 48, 48, 48, 48, 48, 49]⟩) := cell_of_row _ _ 2 _ _ _ hR8
  have k3 : w8.cell? ⟨w5.heap.size, 3, none⟩ = some (.int .i64 0) := cell_of_row _ _ 3 _ _ _ hR8
  have k4 : w8.cell? ⟨w5.heap.size, 4, none⟩ = some (.int .i64 2) := cell_of_row _ _ 4 _ _ _ hR8
  obtain ⟨Ab, cb, rfl, d1, d2, d3⟩ := Rd.open_ hd8
  have hct : (convert 51 9 (.slice (cutA Ab cb 8 1) 12 (cb - 8))).run Tryz.prog w8 = .ok (.string (strB ((frm (bodyM exA)).drop 8))) w8 := str_tail exA_len (by rw [← exA_len]; exact hd8) (by omega)
  rw [exA_drop] at hct
  obtain ⟨i0, hi, hz0, hz1, hz2⟩ := info_parts infoB
  have hsl : (Instr.slice 51 (.slice Ab 20 cb) (some (.int .i64 8)) none none).run Tryz.prog w8 = .ok (.slice (cutA Ab cb 8 1) 12 (cb - 8)) w8 := run_slice_lo (P := Tryz.prog) Tryz.underlying51 hi hz1 Ab 20 cb 8 (by omega) w8
  have CS := Lib.hid (rsame_any (fun _ => False) (fun b => b < w8.heap.size) none 0 exA As cs exA w8 (Rd.nil _ _ _) ((Rd.of_own hO8).wide fun b hb => hb.2) (fun _ h => h.elim) (fun _ h => h))
  rw [exA_val, show manV As cs exA = .agg #[.string ⟨#[]⟩, .slice As 0 cs, .string ⟨#[102, 48, 48, 48, 48, 48, 49]⟩, .int .i64 0, .int .i64 2] from rfl, decide_eq_true rfl] at CS
  rw [exA_len]
  rw [exA_len] at d1
  clear hd8 hP8 hR8 hO8 hd6 hP6 hPX hO6 hD6 CN0 CN7 hi hz0 hz1 hz2 i0
  go_wp2_with fail
  (with_reducible refine CS.out.mono ?_)
  rintro e9 w9 ⟨rfl, hb9⟩
  have hD9 := hD8.below (by omega) hb9
  go_wp2_with fail
  (with_reducible refine (dpending_any H _ D none _ [] w9 hD9).mono ?_)
  rintro e10 w10 ⟨rfl, rfl⟩
  go_wp2_with fail
  go_ret
  exact ⟨rfl, hB8.trans (hb9.mono (by omega))⟩
end Go.Proofs.YthjephhojngiaaaGreatDoor
