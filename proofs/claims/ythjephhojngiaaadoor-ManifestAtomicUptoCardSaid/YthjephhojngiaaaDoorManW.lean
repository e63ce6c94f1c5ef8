/-
  Manifests: the walk of ManifestAtomic.
-/
import Derived.Test.YthjephhojngiaaaDoorManV
import Derived.Test.YthjephhojngiaaaDoorFileV
namespace Go.Proofs.YthjephhojngiaaaDoor
open Go.RowKit Go.Lib Go.IntWalk

def atOps (b : List UInt8) : List DOp := [⟨1, draftN, [], []⟩, ⟨0, draftN, [], b⟩, ⟨2, draftN, fileN, []⟩]
theorem crash_at (b : List UInt8) (keep torn : Int) : crashOps (atOps b) keep torn = [] ∨ crashOps (atOps b) keep torn = [⟨1, draftN, [], []⟩] ∨ (∃ c, crashOps (atOps b) keep torn = [⟨1, draftN, [], []⟩, ⟨0, draftN, [], c⟩]) ∨ crashOps (atOps b) keep torn = atOps b := by
  obtain ⟨k, hk⟩ : ∃ k, keep.toNat = k := ⟨_, rfl⟩
  match k, hk with
  | 0, hk => left; rw [crash_some hk (o := ⟨1, draftN, [], []⟩) rfl]; simp [tornOp, atOps]
  | 1, hk =>
    right
    rw [crash_some hk (o := ⟨0, draftN, [], b⟩) rfl]
    unfold tornOp
    split
    · right; left; exact ⟨b.take torn.toNat, rfl⟩
    · left; rfl
  | 2, hk => right; right; left; rw [crash_some hk (o := ⟨2, draftN, fileN, []⟩) rfl]; exact ⟨b, by simp [tornOp, atOps]⟩
  | k + 3, hk => right; right; right; rw [crash_none hk rfl]; simp [atOps]
theorem file_ne : fileN ≠ draftN := by decide
/-- a crash leaves the old file or the new one -/
theorem atomic_file (fm : FM) (b0 b1 : List UInt8) (keep torn : Int) (h : fm fileN = some b0) : viewF fm (crashOps (atOps b1) keep torn) fileN = some b0 ∨ viewF fm (crashOps (atOps b1) keep torn) fileN = some b1 := by
  have hne := file_ne
  rcases crash_at b1 keep torn with e | e | ⟨c, e⟩ | e <;> rw [e]
  · left; exact h
  · left; simp [viewF, applyF, updG, hne, h]
  · left; simp [viewF, applyF, updG, hne, h]
  · right; simp [viewF, applyF, updG, atOps]
theorem atomic_rest (fm : FM) (b1 : List UInt8) (keep torn : Int) (x : List UInt8) (h1 : x ≠ fileN) (h2 : x ≠ draftN) : viewF fm (crashOps (atOps b1) keep torn) x = fm x := by
  rcases crash_at b1 keep torn with e | e | ⟨c, e⟩ | e <;> rw [e]
  · rfl
  · simp [viewF, applyF, updG, h2]
  · simp [viewF, applyF, updG, h2]
  · simp [viewF, applyF, updG, atOps, h1, h2]
theorem isL_one (fm : FM) (b : List UInt8) (h : ∀ x, x ≠ fileN → x ≠ draftN → fm x = none) : IsL (wrF fm b) [(fileN, b)] := by
  refine ⟨by simp [srtK], fun k => ?_⟩
  unfold wrF lookL
  by_cases h1 : k = fileN
  · rw [if_pos h1, if_pos h1]
  · rw [if_neg h1, if_neg h1]
    by_cases h2 : k = draftN
    · rw [if_pos h2]; rfl
    · rw [if_neg h2, h k h1 h2]; rfl
theorem frm_small {m : Man} (h : mSize m ≤ 3000) : (bodyM m).length ≤ 40000 ∧ (frm (bodyM m)).length ≤ 40000 ∧ m.segs.length ≤ 3000 ∧ ∀ s ∈ nmsF m, s.length ≤ 3000 := by
  have h1 := bodyM_le m
  have h2 := segs_le m
  have h3 := nms_le m
  rw [frm_length]
  exact ⟨by omega, by omega, by omega, fun s hs => by have := h3 s hs; omega⟩
theorem DiskAt.brS {B Z : Nat} {w w' : World} {D : Nat} {P : Option Nat} {fm : FM} {os : List DOp} {v : Value} {l : List UInt8} (h : DiskAt B Z w D P fm os) (hB : B ≤ w.heap.size) (hc : Chg (fun b => b = D ∨ some b = P) w w') (hd : DatB B w v l) : DatB B w' v l := hd.chg hB hc h.br
theorem DiskAt.bel {B Z : Nat} {w w' : World} {D : Nat} {P : Option Nat} {fm : FM} {os : List DOp} (h : DiskAt B Z w D P fm os) (hB : B ≤ w.heap.size) (hc : Chg (fun b => b = D ∨ some b = P) w w') : Below B w w' := hc.below hB (fun _ hi => h.ge hi)
set_option maxRecDepth 100000 in
set_option maxHeartbeats 8000000 in
theorem lawAtomic_any (A0 : Option Addr) (k0 : Nat) (m0 : Man) (A1 : Option Addr) (k1 : Nat) (m1 : Man) (v : Value) (l : List UInt8) (keep torn : Int) (w : World) (hE : EnvT w) (h0 : Rd w (· < w.heap.size) 1 (.slice A0 m0.segs.length k0) m0.segs.length (sv m0.segs)) (h1 : Rd w (· < w.heap.size) 1 (.slice A1 m1.segs.length k1) m1.segs.length (sv m1.segs)) (hv : RdB w (· < w.heap.size) v l) (hs0 : mSize m0 ≤ 4194304) (hs1 : mSize m1 ≤ 4194304) (hll : l.length ≤ 1048576) :
    Calls Tryd.prog 6 #[manV A0 k0 m0, manV A1 k1 m1, v, .int .i64 keep, .int .i64 torn] w fun e w' => e = .returned (.bool true) ∧ Below w.heap.size w w' := by
  obtain ⟨A2, k2, rfl, y1, y2, y3⟩ := hv.open_
  obtain ⟨W, hW⟩ : ∃ W, W = (w.alloc (.cells (rowM A0 k0 m0) 27)).alloc (.cells (rowM A1 k1 m1) 27) := ⟨_, rfl⟩
  have hbW : Below w.heap.size w W := by rw [hW]; exact (Below.of_alloc _).trans ((Below.of_alloc _).mono (by simp))
  have hsW : W.heap.size = w.heap.size + 2 := by rw [hW]; simp
  have hPW : W.heap[w.heap.size]? = some (.cells (rowM A0 k0 m0) 27 (0, 0)) := by rw [hW, Below.heap_alloc _ _ _ (by simp)]; exact heap_alloc_new w _
  have hQW : W.heap[w.heap.size + 1]? = some (.cells (rowM A1 k1 m1) 27 (0, 0)) := by rw [hW]; exact heap_alloc2_new w _ _
  have c0 : W.cell? ⟨w.heap.size, 0, none⟩ = some (.string (strB m0.base)) := cell_of_row _ _ 0 _ _ _ hPW
  have c1 : W.cell? ⟨w.heap.size, 1, none⟩ = some (.slice A0 m0.segs.length k0) := cell_of_row _ _ 1 _ _ _ hPW
  have c2 : W.cell? ⟨w.heap.size, 2, none⟩ = some (.string (strB m0.log)) := cell_of_row _ _ 2 _ _ _ hPW
  have c3 : W.cell? ⟨w.heap.size, 3, none⟩ = some (.int .i64 m0.tx) := cell_of_row _ _ 3 _ _ _ hPW
  have c4 : W.cell? ⟨w.heap.size, 4, none⟩ = some (.int .i64 m0.nx) := cell_of_row _ _ 4 _ _ _ hPW
  have hr0 : Rd W (· < w.heap.size) 1 (.slice A0 m0.segs.length k0) m0.segs.length (sv m0.segs) := h0.keep fun b hb => hbW.block b hb
  have hr1 : Rd W (· < w.heap.size) 1 (.slice A1 m1.segs.length k1) m1.segs.length (sv m1.segs) := h1.keep fun b hb => hbW.block b hb
  have CL := Lib.hid (large_any (· < w.heap.size) A0 k0 m0 W hr0 (fun b hb => by omega) hs0)
  rw [hW] at c0 c1 c2 c3 c4
  have HW := Lib.hid hW
  have HV := Lib.hid hv
  have HY := Lib.hid y3
  unfold maxLen at y2
  obtain ⟨_, _, hce, x1, x2, x3⟩ := Rd.open_ h0
  obtain ⟨_, _, hce', z1, z2, z3⟩ := Rd.open_ h1
  unfold maxLen at x2 z2
  clear hW h0 h1 x3 hce x1 x2 z3 hce' z1 z2 y3 hv
  generalize hH : w.heap.size = H at *
  have HH := Lib.hid hH
  clear hH
  have HEB : Hid (∀ w', Below H w w' → EnvT w') := Lib.hid fun w' hb => hE.below (by rw [HH.out]; exact hb)
  clear hE
  go_enter Tryd.func6, Tryd.ntmps6
  go_wp2_with fail
  rw [← HW.out]
  (with_reducible refine CL.out.mono ?_)
  rintro e1 w1 ⟨b0, rfl, hb0, hb1⟩
  rw [HH.out]
  have hs1' := hb1.size
  have hB1 : Below H w w1 := hbW.trans (hb1.mono (by omega))
  cases b0 with
  | true =>
    go_wp2_with fail
    (with_reducible refine (mworks_any w1 (HEB.out _ hB1)).mono ?_)
    rintro ez wz ⟨rfl, hbz⟩
    go_wp2_with fail
    go_ret
    exact ⟨rfl, (hB1).trans (hbz.mono (by omega))⟩
  | false =>
  have hz0 := hb0.out rfl
  have hP1 := (hb1.block H (by omega)).trans hPW
  have hQ1 := (hb1.block (H + 1) (by omega)).trans hQW
  have hr0 : Rd w1 (· < H) 1 (.slice A0 m0.segs.length k0) m0.segs.length (sv m0.segs) := hr0.keep fun b hb => hb1.block b (by omega)
  have hr1 : Rd w1 (· < H) 1 (.slice A1 m1.segs.length k1) m1.segs.length (sv m1.segs) := hr1.keep fun b hb => hb1.block b (by omega)
  have CL1 := Lib.hid (large_any (· < H) A1 k1 m1 w1 hr1 (fun b hb => by omega) hs1)
  clear CL c0 c1 c2 c3 c4 hPW hQW hbW hb0
  have c0 : w1.cell? ⟨H + 1, 0, none⟩ = some (.string (strB m1.base)) := cell_of_row _ _ 0 _ _ _ hQ1
  have c1 : w1.cell? ⟨H + 1, 1, none⟩ = some (.slice A1 m1.segs.length k1) := cell_of_row _ _ 1 _ _ _ hQ1
  have c2 : w1.cell? ⟨H + 1, 2, none⟩ = some (.string (strB m1.log)) := cell_of_row _ _ 2 _ _ _ hQ1
  have c3 : w1.cell? ⟨H + 1, 3, none⟩ = some (.int .i64 m1.tx) := cell_of_row _ _ 3 _ _ _ hQ1
  have c4 : w1.cell? ⟨H + 1, 4, none⟩ = some (.int .i64 m1.nx) := cell_of_row _ _ 4 _ _ _ hQ1
  go_wp2_with fail
  (with_reducible refine CL1.out.mono ?_)
  rintro e2 w2 ⟨b1, rfl, hb1', hb2⟩
  have hs2' := hb2.size
  have hB2 : Below H w w2 := hB1.trans (hb2.mono (by omega))
  cases b1 with
  | true =>
    go_wp2_with fail
    (with_reducible refine (mworks_any w2 (HEB.out _ hB2)).mono ?_)
    rintro ez wz ⟨rfl, hbz⟩
    go_wp2_with fail
    go_ret
    exact ⟨rfl, (hB2).trans (hbz.mono (by omega))⟩
  | false =>
  by_cases hl1 : 1000 < l.length
  case pos =>
    have bl : (1000 : Int) < (l.length : Int) := by omega
    go_wp2_with fail
    (with_reducible refine (mworks_any w2 (HEB.out _ hB2)).mono ?_)
    rintro ez wz ⟨rfl, hbz⟩
    go_wp2_with fail
    go_ret
    exact ⟨rfl, (hB2).trans (hbz.mono (by omega))⟩
  case neg =>
  have bl : ¬ (1000 : Int) < (l.length : Int) := by omega
  have hz1 := hb1'.out rfl
  have hP2 := (hb2.block H (by omega)).trans hP1
  have hQ2 := (hb2.block (H + 1) (by omega)).trans hQ1
  have hr0 : Rd w2 (· < H) 1 (.slice A0 m0.segs.length k0) m0.segs.length (sv m0.segs) := hr0.keep fun b hb => hb2.block b (by omega)
  have hr1 : Rd w2 (· < H) 1 (.slice A1 m1.segs.length k1) m1.segs.length (sv m1.segs) := hr1.keep fun b hb => hb2.block b (by omega)
  obtain ⟨sm0, sm1, sm2, sm3⟩ := frm_small hz0
  obtain ⟨tm0, tm1, tm2, tm3⟩ := frm_small hz1
  have CE := Lib.hid (encode_any (· < H) A1 k1 m1 w2 hr1 (fun b hb => by omega) (by omega) (fun s hs => by have := tm3 s hs; omega) (by omega))
  clear CL1 c0 c1 c2 c3 c4 hP1 hQ1 hb1' hb1 hB1
  have c0 : w2.cell? ⟨H + 1, 0, none⟩ = some (.string (strB m1.base)) := cell_of_row _ _ 0 _ _ _ hQ2
  have c1 : w2.cell? ⟨H + 1, 1, none⟩ = some (.slice A1 m1.segs.length k1) := cell_of_row _ _ 1 _ _ _ hQ2
  have c2 : w2.cell? ⟨H + 1, 2, none⟩ = some (.string (strB m1.log)) := cell_of_row _ _ 2 _ _ _ hQ2
  have c3 : w2.cell? ⟨H + 1, 3, none⟩ = some (.int .i64 m1.tx) := cell_of_row _ _ 3 _ _ _ hQ2
  have c4 : w2.cell? ⟨H + 1, 4, none⟩ = some (.int .i64 m1.nx) := cell_of_row _ _ 4 _ _ _ hQ2
  go_wp2_with fail
  (with_reducible refine CE.out.mono ?_)
  rintro e3 w3 ⟨v3, hen, hO3, hb3⟩
  rw [encM_err] at hen
  subst hen
  have hs3' := hb3.size
  have hB3 : Below H w w3 := hB2.trans (hb3.mono (by omega))
  have hP3 := (hb3.block H (by omega)).trans hP2
  have hQ3 := (hb3.block (H + 1) (by omega)).trans hQ2
  have hr0 : Rd w3 (· < H) 1 (.slice A0 m0.segs.length k0) m0.segs.length (sv m0.segs) := hr0.keep fun b hb => hb3.block b (by omega)
  have hr1 : Rd w3 (· < H) 1 (.slice A1 m1.segs.length k1) m1.segs.length (sv m1.segs) := hr1.keep fun b hb => hb3.block b (by omega)
  have hd3 : DatB H w3 v3 (encM m1).1 := DatB.of_own hO3
  clear CE c0 c1 c2 c3 c4 hP2 hQ2 hb2 hB2 hO3
  go_wp2_with fail
  (with_reducible refine (dnew_any H w3 (by omega)).mono ?_)
  rintro e4 w4 ⟨D, rfl, hDl, hD4, hb4⟩
  have hs4' := hb4.size
  have hB4 : Below H w w4 := hB3.trans (hb4.mono (by omega))
  have hP4 := (hb4.block H (by omega)).trans hP3
  have hQ4 := (hb4.block (H + 1) (by omega)).trans hQ3
  have hr0 : Rd w4 (· < H) 1 (.slice A0 m0.segs.length k0) m0.segs.length (sv m0.segs) := hr0.keep fun b hb => hb4.block b (by omega)
  have hr1 : Rd w4 (· < H) 1 (.slice A1 m1.segs.length k1) m1.segs.length (sv m1.segs) := hr1.keep fun b hb => hb4.block b (by omega)
  have hd4 : DatB H w4 v3 (encM m1).1 := hd3.below (by omega) hb4
  have CW := Lib.hid (mwrite_any H 0 D none (fun _ => none) [] (· < H) A0 k0 m0 w4 (by omega) hD4 (by omega) hr0 (fun b hb => by omega) (by omega) (fun s hs => by have := sm3 s hs; omega) (by omega))
  clear hP3 hQ3 hb3 hB3 hd3
  have c0 : w4.cell? ⟨H, 0, none⟩ = some (.string (strB m0.base)) := cell_of_row _ _ 0 _ _ _ hP4
  have c1 : w4.cell? ⟨H, 1, none⟩ = some (.slice A0 m0.segs.length k0) := cell_of_row _ _ 1 _ _ _ hP4
  have c2 : w4.cell? ⟨H, 2, none⟩ = some (.string (strB m0.log)) := cell_of_row _ _ 2 _ _ _ hP4
  have c3 : w4.cell? ⟨H, 3, none⟩ = some (.int .i64 m0.tx) := cell_of_row _ _ 3 _ _ _ hP4
  have c4 : w4.cell? ⟨H, 4, none⟩ = some (.int .i64 m0.nx) := cell_of_row _ _ 4 _ _ _ hP4
  go_wp2_with fail
  (with_reducible refine CW.out.mono ?_)
  rintro e5 w5 ⟨hen, hbad, hok⟩
  subst hen
  clear CW c0 c1 c2 c3 c4
  by_cases hk0 : chkF m0 = 0
  case neg =>
    have bq : (chkF m0 != 0) = true := by rw [bne_iff_ne]; exact hk0
    obtain ⟨_, hb5⟩ := hbad hk0
    have hs5' := hb5.size
    have hB5 : Below H w w5 := hB4.trans (hb5.mono (by omega))
    go_wp2_with fail
    (with_reducible refine (mworks_any w5 (HEB.out _ hB5)).mono ?_)
    rintro ez wz ⟨rfl, hbz⟩
    go_wp2_with fail
    go_ret
    exact ⟨rfl, (hB5).trans (hbz.mono (by omega))⟩
  case pos =>
  obtain ⟨hD5, hc5⟩ := hok hk0
  have hs5' := hc5.size
  have hb45 := hD4.bel (by omega) hc5
  have hB5 : Below H w w5 := hB4.trans hb45
  clear hbad hok
  rw [hk0]
  by_cases hk1 : chkF m1 = 0
  case neg =>
    have bq : (chkF m1 != 0) = true := by rw [bne_iff_ne]; exact hk1
    go_wp2_with fail
    (with_reducible refine (mworks_any w5 (HEB.out _ hB5)).mono ?_)
    rintro ez wz ⟨rfl, hbz⟩
    go_wp2_with fail
    go_ret
    exact ⟨rfl, (hB5).trans (hbz.mono (by omega))⟩
  case pos =>
  rw [hk1]
  have hen1 : (encM m1).1 = frm (bodyM m1) := by rw [show encM m1 = (frm (bodyM m1), 0) from if_pos hk1]
  rw [hen1] at hd4
  have hd5 : DatB H w5 v3 (frm (bodyM m1)) := hD4.brS (by omega) hc5 hd4
  have hb45' := fun (x : Nat) (hx : x = H ∨ x = H + 1) => hc5.block x (by omega) (fun h => by rcases h with h | h; omega; cases h)
  have hP5 := (hb45' H (.inl rfl)).trans hP4
  have hQ5 := (hb45' (H + 1) (.inr rfl)).trans hQ4
  have hvl : RdB w5 (· < H) (.slice A2 l.length k2) l := HV.out.keep (fun b hb => hB5.block b hb)
  generalize hfm1 : wrF (viewF (fun _ => none) []) (frm (bodyM m0)) = fm1 at hD5
  have F1 : fm1 fileN = some (frm (bodyM m0)) := by rw [← hfm1]; rfl
  have G1 : ∀ x, x ≠ fileN → x ≠ draftN → fm1 x = none := fun x h1 h2 => by rw [← hfm1]; unfold wrF; rw [if_neg h1, if_neg h2]; rfl
  have HF1 := Lib.hid F1
  have HG1 := Lib.hid G1
  clear hfm1 F1 G1 hc5 hD4 hd4 hP4 hQ4 hb45' hen1
  have CA := Lib.hid (dappend_ok H (0 + (bodyM m0).length + 20) D none fm1 [] draftN (.slice A2 l.length k2) l w5 (by omega) hD5 draft_word (hvl.wide (fun b hb => by omega)) (by omega) (by omega))
  go_wp2_with fail
  rw [draftV]
  (with_reducible refine CA.out.mono ?_)
  rintro e6 w6 ⟨rfl, P6, hD6, hp6, hc6⟩
  have hs6' := hc6.size
  have hB6 : Below H w w6 := hB5.trans (hD5.bel (by omega) hc6)
  have hd6 : DatB H w6 v3 (frm (bodyM m1)) := hD5.brS (by omega) hc6 hd5
  have hP6 := (hc6.block H (by omega) (hD5.not_log hP5 (by decide) (by decide))).trans hP5
  have hQ6 := (hc6.block (H + 1) (by omega) (hD5.not_log hQ5 (by decide) (by decide))).trans hQ5
  clear CA hvl hd5 hP5 hQ5
  have CS := Lib.hid (dsync_any H (0 + (bodyM m0).length + 20 + l.length + 1) D fm1 ([] ++ [⟨0, draftN, [], l⟩]) w6 (by omega) hD6.rd (by omega))
  go_wp2_with fail
  (with_reducible refine CS.out.mono ?_)
  rintro e7 w7 ⟨u7, rfl, hD7, hc7'⟩
  have hc7 : Chg (fun b => b = D ∨ some b = P6) w6 w7 := hc7'.mono (fun i h => .inl h)
  have hs7' := hc7.size
  have hB7 : Below H w w7 := hB6.trans (hD6.bel (by omega) hc7)
  have hd7 : DatB H w7 v3 (frm (bodyM m1)) := hD6.brS (by omega) hc7 hd6
  have hP7 := (hc7.block H (by omega) (hD6.not_log hP6 (by decide) (by decide))).trans hP6
  have hQ7 := (hc7.block (H + 1) (by omega) (hD6.not_log hQ6 (by decide) (by decide))).trans hQ6
  clear CS hd6 hP6 hQ6 hD5 hc6 hc7'
  generalize hfm2 : viewF fm1 ([] ++ [⟨0, draftN, [], l⟩]) = fm2 at hD7
  have HF2 := Lib.hid (show fm2 fileN = some (frm (bodyM m0)) by rw [← hfm2]; simp [viewF, applyF, updG, file_ne, HF1.out])
  have HG2 := Lib.hid (show ∀ x, x ≠ fileN → x ≠ draftN → fm2 x = none from fun x h1 h2 => by rw [← hfm2]; simp [viewF, applyF, updG, h2, HG1.out x h1 h2])
  have HX2 := Lib.hid (show (viewF fm2 [] draftN).isSome = true by rw [← hfm2]; simp [viewF, applyF, updG])
  clear hfm2 HF1 HG1
  have CM := Lib.hid (dremove_ok H (0 + (bodyM m0).length + 20 + l.length + 1) D none fm2 [] draftN w7 (by omega) hD7 (by decide) (by omega) HX2.out)
  go_wp2_with fail
  rw [draftV]
  (with_reducible refine CM.out.mono ?_)
  rintro e8 w8 ⟨rfl, P8, hD8, hp8, hc8⟩
  have hs8' := hc8.size
  have hB8 : Below H w w8 := hB7.trans (hD7.bel (by omega) hc8)
  have hd8 : DatB H w8 v3 (frm (bodyM m1)) := hD7.brS (by omega) hc8 hd7
  have hP8 := (hc8.block H (by omega) (hD7.not_log hP7 (by decide) (by decide))).trans hP7
  have hQ8 := (hc8.block (H + 1) (by omega) (hD7.not_log hQ7 (by decide) (by decide))).trans hQ7
  clear CM hd7 hP7 hQ7 hD6 hc7
  have CA := Lib.hid (dappend_ok H (0 + (bodyM m0).length + 20 + l.length + 1 + 1) D P8 fm2 ([] ++ [⟨1, draftN, [], []⟩]) draftN v3 (frm (bodyM m1)) w8 (by omega) hD8 draft_word (hd8.rd (by omega)) (by omega) (by omega))
  go_wp2_with fail
  rw [draftV]
  (with_reducible refine CA.out.mono ?_)
  rintro e9 w9 ⟨rfl, P9, hD9, hp9, hc9⟩
  have hs9' := hc9.size
  have hB9 : Below H w w9 := hB8.trans (hD8.bel (by omega) hc9)
  have hd9 : DatB H w9 v3 (frm (bodyM m1)) := hD8.brS (by omega) hc9 hd8
  have hP9 := (hc9.block H (by omega) (hD8.not_log hP8 (by decide) (by decide))).trans hP8
  have hQ9 := (hc9.block (H + 1) (by omega) (hD8.not_log hQ8 (by decide) (by decide))).trans hQ8
  clear CA hd8 hP8 hQ8 hD7 hc8
  have CN := Lib.hid (drename_ok H (0 + (bodyM m0).length + 20 + l.length + 1 + 1 + (frm (bodyM m1)).length + 1) D P9 fm2 ([] ++ [⟨1, draftN, [], []⟩] ++ [⟨0, draftN, [], frm (bodyM m1)⟩]) draftN fileN w9 (by omega) hD9 (by decide) (by omega) (by simp [viewF, applyF, updG]) file_word)
  go_wp2_with fail
  rw [draftV, fileV]
  (with_reducible refine CN.out.mono ?_)
  rintro e10 w10 ⟨rfl, P10, hD10, hp10, hc10⟩
  have hs10' := hc10.size
  have hB10 : Below H w w10 := hB9.trans (hD9.bel (by omega) hc10)
  have hd10 : DatB H w10 v3 (frm (bodyM m1)) := hD9.brS (by omega) hc10 hd9
  have hP10 := (hc10.block H (by omega) (hD9.not_log hP9 (by decide) (by decide))).trans hP9
  have hQ10 := (hc10.block (H + 1) (by omega) (hD9.not_log hQ9 (by decide) (by decide))).trans hQ9
  clear CN hd9 hP9 hQ9 hD8 hc9
  rw [show ([] ++ [⟨1, draftN, [], []⟩] ++ [⟨0, draftN, [], frm (bodyM m1)⟩] ++ [⟨2, draftN, fileN, []⟩] : List DOp) = atOps (frm (bodyM m1)) from rfl] at hD10
  have CC := Lib.hid (dcrash_any H (0 + (bodyM m0).length + 20 + l.length + 1 + 1 + (frm (bodyM m1)).length + 1 + 1) D P10 fm2 (atOps (frm (bodyM m1))) keep torn w10 (by omega) hD10 (by omega))
  go_wp2_with fail
  (with_reducible refine CC.out.mono ?_)
  rintro e11 w11 ⟨u11, rfl, hD11, hc11'⟩
  have hc11 : Chg (fun b => b = D ∨ some b = P10) w10 w11 := hc11'.mono (fun i h => .inl h)
  have hs11' := hc11.size
  have hB11 : Below H w w11 := hB10.trans (hD10.bel (by omega) hc11)
  have hP11 := (hc11.block H (by omega) (hD10.not_log hP10 (by decide) (by decide))).trans hP10
  have hQ11 := (hc11.block (H + 1) (by omega) (hD10.not_log hQ10 (by decide) (by decide))).trans hQ10
  clear CC hd10 hP10 hQ10 hD9 hc10 hc11'
  have HF3 := Lib.hid (atomic_file fm2 (frm (bodyM m0)) (frm (bodyM m1)) keep torn HF2.out)
  have HG3 := Lib.hid (show ∀ x, x ≠ fileN → x ≠ draftN → viewF fm2 (crashOps (atOps (frm (bodyM m1))) keep torn) x = none from fun x h1 h2 => by rw [atomic_rest _ _ _ _ x h1 h2]; exact HG2.out x h1 h2)
  generalize viewF fm2 (crashOps (atOps (frm (bodyM m1))) keep torn) = fm3 at hD11 HF3 HG3
  clear HF2 HG2 HX2
  obtain ⟨mx, hmx, hrf, hfl⟩ : ∃ mx, (mx = m0 ∨ mx = m1) ∧ readF (viewF fm3 [] fileN) = (mx, true, 0) ∧ ∀ l, viewF fm3 [] fileN = some l → l.length ≤ 1000000 := by
    rcases HF3.out with h | h
    · refine ⟨m0, .inl rfl, ?_, fun l hl => ?_⟩
      · rw [show viewF fm3 [] fileN = some (frm (bodyM m0)) from h]; unfold readF; simp only [decM_put hk0 (by omega)]; rfl
      · rw [show viewF fm3 [] fileN = some (frm (bodyM m0)) from h] at hl; injection hl with hl; subst hl; omega
    · refine ⟨m1, .inr rfl, ?_, fun l hl => ?_⟩
      · rw [show viewF fm3 [] fileN = some (frm (bodyM m1)) from h]; unfold readF; simp only [decM_put hk1 (by omega)]; rfl
      · rw [show viewF fm3 [] fileN = some (frm (bodyM m1)) from h] at hl; injection hl with hl; subst hl; omega
  have CR := Lib.hid (mread_any H (0 + (bodyM m0).length + 20 + l.length + 1 + 1 + (frm (bodyM m1)).length + 1 + 1) D none fm3 [] w11 (by omega) hD11 (by omega) hfl)
  rw [hrf] at CR
  clear hrf hfl HF3
  go_wp2_with fail
  (with_reducible refine CR.out.mono ?_)
  rintro e12 w12 ⟨As, cs, rfl, hO12, hb12⟩
  (try dsimp only at hO12)
  have hs12' := hb12.size
  have hB12 : Below H w w12 := hB11.trans (hb12.mono (by omega))
  have hP12 := (hb12.block H (by omega)).trans hP11
  have hQ12 := (hb12.block (H + 1) (by omega)).trans hQ11
  have hD12 := hD11.below (by omega) hb12
  obtain ⟨X, hX⟩ : ∃ X, X = w12.alloc (.cells (rowM As cs mx) 27) := ⟨_, rfl⟩
  have hbX : Below w12.heap.size w12 X := by rw [hX]; exact Below.of_alloc _
  have hsX : X.heap.size = w12.heap.size + 1 := by rw [hX]; simp
  have hTX : X.heap[w12.heap.size]? = some (.cells (rowM As cs mx) 27 (0, 0)) := by rw [hX]; exact heap_alloc_new _ _
  have hPX := (hbX.block H (by omega)).trans hP12
  have hQX := (hbX.block (H + 1) (by omega)).trans hQ12
  have hBX : Below H w X := hB12.trans (hbX.mono (by omega))
  have hOX := hO12.below hbX
  have hDX := hD12.below (by omega) hbX
  have hr0X : Rd X (· < H) 1 (.slice A0 m0.segs.length k0) m0.segs.length (sv m0.segs) := hr0.keep fun b hb => (hBX.block b hb).trans ((hB4.block b hb).symm)
  have hr1X : Rd X (· < H) 1 (.slice A1 m1.segs.length k1) m1.segs.length (sv m1.segs) := hr1.keep fun b hb => (hBX.block b hb).trans ((hB4.block b hb).symm)
  have CS0 := Lib.hid (rsame_any (fun b => b < X.heap.size) (· < H) As cs mx A0 k0 m0 X ((Rd.of_own hOX).wide fun b hb => hb.2) hr0X (fun _ h => h) (fun b hb => by omega))
  have t0 : X.cell? ⟨w12.heap.size, 0, none⟩ = some (.string (strB mx.base)) := cell_of_row _ _ 0 _ _ _ hTX
  have t1 : X.cell? ⟨w12.heap.size, 1, none⟩ = some (.slice As mx.segs.length cs) := cell_of_row _ _ 1 _ _ _ hTX
  have t2 : X.cell? ⟨w12.heap.size, 2, none⟩ = some (.string (strB mx.log)) := cell_of_row _ _ 2 _ _ _ hTX
  have t3 : X.cell? ⟨w12.heap.size, 3, none⟩ = some (.int .i64 mx.tx) := cell_of_row _ _ 3 _ _ _ hTX
  have t4 : X.cell? ⟨w12.heap.size, 4, none⟩ = some (.int .i64 mx.nx) := cell_of_row _ _ 4 _ _ _ hTX
  have c0 : X.cell? ⟨H, 0, none⟩ = some (.string (strB m0.base)) := cell_of_row _ _ 0 _ _ _ hPX
  have c1 : X.cell? ⟨H, 1, none⟩ = some (.slice A0 m0.segs.length k0) := cell_of_row _ _ 1 _ _ _ hPX
  have c2 : X.cell? ⟨H, 2, none⟩ = some (.string (strB m0.log)) := cell_of_row _ _ 2 _ _ _ hPX
  have c3 : X.cell? ⟨H, 3, none⟩ = some (.int .i64 m0.tx) := cell_of_row _ _ 3 _ _ _ hPX
  have c4 : X.cell? ⟨H, 4, none⟩ = some (.int .i64 m0.nx) := cell_of_row _ _ 4 _ _ _ hPX
  rw [hX] at t0 t1 t2 t3 t4 c0 c1 c2 c3 c4
  have HX := Lib.hid hX
  have hnot : ∀ (x : Bool) (w : World), (Op.unary .not (.bool x)).run Tryd.prog w = .ok (.bool (!x)) w := fun _ _ => rfl
  clear CR hP11 hQ11 hP12 hQ12 hD11 hO12 hX hr0 hr1 hB11 hB12
  go_wp2_with fail
  rw [← HX.out]
  (with_reducible refine CS0.out.mono ?_)
  rintro e13 w13 ⟨rfl, hb13⟩
  have hs13 := hb13.size
  by_cases hm0 : mx = m0
  case pos =>
    rw [decide_eq_true hm0]
    have hbX13 := hb13
    have hD13 := hDX.below (by omega) (hbX13)
    have hT13 := (hbX13.block w12.heap.size (by omega)).trans hTX
    have hQ13 := (hbX13.block (H + 1) (by omega)).trans hQX
    have hB13 : Below H w w13 := hBX.trans (hbX13.mono (by omega))
    have hr1 : Rd w13 (· < H) 1 (.slice A1 m1.segs.length k1) m1.segs.length (sv m1.segs) := hr1X.keep fun b hb => hbX13.block b (by omega)
    have CW := Lib.hid (mwrite_any H (0 + (bodyM m0).length + 20 + l.length + 1 + 1 + (frm (bodyM m1)).length + 1 + 1) D none fm3 [] (· < H) A1 k1 m1 w13 (by omega) hD13 (by omega) hr1 (fun b hb => by omega) (by omega) (fun s hs => by have := tm3 s hs; omega) (by omega))
    clear c0 c1 c2 c3 c4 t0 t1 t2 t3 t4 CS0
    have c0 : w13.cell? ⟨H + 1, 0, none⟩ = some (.string (strB m1.base)) := cell_of_row _ _ 0 _ _ _ hQ13
    have c1 : w13.cell? ⟨H + 1, 1, none⟩ = some (.slice A1 m1.segs.length k1) := cell_of_row _ _ 1 _ _ _ hQ13
    have c2 : w13.cell? ⟨H + 1, 2, none⟩ = some (.string (strB m1.log)) := cell_of_row _ _ 2 _ _ _ hQ13
    have c3 : w13.cell? ⟨H + 1, 3, none⟩ = some (.int .i64 m1.tx) := cell_of_row _ _ 3 _ _ _ hQ13
    have c4 : w13.cell? ⟨H + 1, 4, none⟩ = some (.int .i64 m1.nx) := cell_of_row _ _ 4 _ _ _ hQ13
    go_wp2_with fail
    (with_reducible refine CW.out.mono ?_)
    rintro e20 w20 ⟨hen, _, hok⟩
    obtain ⟨hD20, hc20⟩ := hok hk1
    rw [hk1] at hen
    subst hen
    have hs20 := hc20.size
    have hT20 := (hc20.block w12.heap.size (by omega) (hD13.not_log hT13 (by decide) (by decide))).trans hT13
    have hQ20 := (hc20.block (H + 1) (by omega) (hD13.not_log hQ13 (by decide) (by decide))).trans hQ13
    have hB20 : Below H w w20 := hB13.trans (hD13.bel (by omega) hc20)
    have hv20 : viewF (wrF (viewF fm3 []) (frm (bodyM m1))) [] fileN = some (frm (bodyM m1)) := rfl
    have CR := Lib.hid (mread_any H _ D none _ [] w20 (by omega) hD20 (by omega) (by intro l hl; rw [hv20] at hl; injection hl with hl; subst hl; omega))
    have hrf : readF (some (frm (bodyM m1))) = (m1, true, 0) := by unfold readF; simp only [decM_put hk1 (show (bodyM m1).length ≤ 1048576 by omega)]; rfl
    rw [hv20, hrf] at CR
    clear CW hok c0 c1 c2 c3 c4 hrf hv20
    go_wp2_with fail
    (with_reducible refine CR.out.mono ?_)
    rintro e21 w21 ⟨Bs, ds, rfl, hO21, hb21⟩
    (try dsimp only at hO21)
    have hs21 := hb21.size
    have hT21 := (hb21.block w12.heap.size (by omega)).trans hT20
    have hQ21 := (hb21.block (H + 1) (by omega)).trans hQ20
    have hB21 : Below H w w21 := hB20.trans (hb21.mono (by omega))
    have hD21 := hD20.below (by omega) hb21
    obtain ⟨X21, hX21⟩ : ∃ X, X = (((((w21.setCell ⟨w12.heap.size, 0, none⟩ (.string (strB m1.base))).setCell ⟨w12.heap.size, 1, none⟩ (.slice Bs m1.segs.length ds)).setCell ⟨w12.heap.size, 2, none⟩ (.string (strB m1.log))).setCell ⟨w12.heap.size, 3, none⟩ (.int .i64 m1.tx)).setCell ⟨w12.heap.size, 4, none⟩ (.int .i64 m1.nx)) := ⟨_, rfl⟩
    have hc21 : Chg (· = w12.heap.size) w21 X21 := by rw [hX21]; exact five_chg' _ _ _ _ _ _ _
    have hsX21 := hc21.size
    have hTX21 : X21.heap[w12.heap.size]? = some (.cells (rowM Bs ds m1) 27 (0, 0)) := by rw [hX21]; exact row_set5 hT21 _ _ _ _ _
    have hQX21 := (hc21.block (H + 1) (by omega) (by omega)).trans hQ21
    have hBX21 : Below H w X21 := hB21.trans (hc21.below (by omega) (fun i hi => by omega))
    have hDX21 := hD21.keep (by omega) hc21 (fun b hb => ⟨by omega, by subst hb; exact ⟨_, _, _, hT21, by decide, by decide, by decide⟩⟩)
    have hOX21 : OwnS X21 w20.heap.size (.slice Bs m1.segs.length ds) m1.segs := by
      obtain ⟨q1, q2⟩ := hO21
      refine ⟨q1, ?_⟩
      rcases q2 with q2 | ⟨g, cap, cur, hv, hg, hr, rest⟩
      · exact .inl q2
      · exact .inr ⟨g, cap, cur, hv, hg, (hc21.block g (Array.getElem?_eq_some_iff.1 hr).1 (by omega)).trans hr, rest⟩
    have hr1' : Rd X21 (· < H) 1 (.slice A1 m1.segs.length k1) m1.segs.length (sv m1.segs) := hr1.keep fun b hb => (hBX21.block b hb).trans ((hB13.block b hb).symm)
    have CS1 := Lib.hid (rsame_any (fun b => b < X21.heap.size) (· < H) Bs ds m1 A1 k1 m1 X21 ((Rd.of_own hOX21).wide fun b hb => hb.2) hr1' (fun _ h => h) (fun b hb => by omega))
    rw [decide_eq_true rfl] at CS1
    have g0 : w21.cell? ⟨w12.heap.size, 0, none⟩ = some (.string (strB mx.base)) := cell_of_row _ _ 0 _ _ _ hT21
    have g1 : w21.cell? ⟨w12.heap.size, 1, none⟩ = some (.slice As mx.segs.length cs) := cell_of_row _ _ 1 _ _ _ hT21
    have g2 : w21.cell? ⟨w12.heap.size, 2, none⟩ = some (.string (strB mx.log)) := cell_of_row _ _ 2 _ _ _ hT21
    have g3 : w21.cell? ⟨w12.heap.size, 3, none⟩ = some (.int .i64 mx.tx) := cell_of_row _ _ 3 _ _ _ hT21
    have g4 : w21.cell? ⟨w12.heap.size, 4, none⟩ = some (.int .i64 mx.nx) := cell_of_row _ _ 4 _ _ _ hT21
    have f0 := frozen_of_row _ _ 0 _ _ hT21
    have f1 := frozen_of_row _ _ 1 _ _ hT21
    have f2 := frozen_of_row _ _ 2 _ _ hT21
    have f3 := frozen_of_row _ _ 3 _ _ hT21
    have f4 := frozen_of_row _ _ 4 _ _ hT21
    have t0 : X21.cell? ⟨w12.heap.size, 0, none⟩ = some (.string (strB m1.base)) := cell_of_row _ _ 0 _ _ _ hTX21
    have t1 : X21.cell? ⟨w12.heap.size, 1, none⟩ = some (.slice Bs m1.segs.length ds) := cell_of_row _ _ 1 _ _ _ hTX21
    have t2 : X21.cell? ⟨w12.heap.size, 2, none⟩ = some (.string (strB m1.log)) := cell_of_row _ _ 2 _ _ _ hTX21
    have t3 : X21.cell? ⟨w12.heap.size, 3, none⟩ = some (.int .i64 m1.tx) := cell_of_row _ _ 3 _ _ _ hTX21
    have t4 : X21.cell? ⟨w12.heap.size, 4, none⟩ = some (.int .i64 m1.nx) := cell_of_row _ _ 4 _ _ _ hTX21
    have c0 : X21.cell? ⟨H + 1, 0, none⟩ = some (.string (strB m1.base)) := cell_of_row _ _ 0 _ _ _ hQX21
    have c1 : X21.cell? ⟨H + 1, 1, none⟩ = some (.slice A1 m1.segs.length k1) := cell_of_row _ _ 1 _ _ _ hQX21
    have c2 : X21.cell? ⟨H + 1, 2, none⟩ = some (.string (strB m1.log)) := cell_of_row _ _ 2 _ _ _ hQX21
    have c3 : X21.cell? ⟨H + 1, 3, none⟩ = some (.int .i64 m1.tx) := cell_of_row _ _ 3 _ _ _ hQX21
    have c4 : X21.cell? ⟨H + 1, 4, none⟩ = some (.int .i64 m1.nx) := cell_of_row _ _ 4 _ _ _ hQX21
    rw [hX21] at t0 t1 t2 t3 t4 c0 c1 c2 c3 c4
    have HX21 := Lib.hid hX21
    clear CR hX21 hO21 hOX21 hr1'
    go_wp2_with fail
    rw [← HX21.out]
    (with_reducible refine CS1.out.mono ?_)
    rintro e22 w22 ⟨rfl, hb22⟩
    have hs22 := hb22.size
    have hD22 := hDX21.below (by omega) hb22
    have hB22 : Below H w w22 := hBX21.trans (hb22.mono (by omega))
    have CV := Lib.hid (dviewl_any H _ D _ [] w22 (by omega) hD22.rd (by omega))
    clear t0 t1 t2 t3 t4 c0 c1 c2 c3 c4 g0 g1 g2 g3 g4 f0 f1 f2 f3 f4 CS1
    go_wp2_with fail
    (with_reducible refine CV.out.mono ?_)
    rintro e23 w23 ⟨vf, fl, rfl, hfo, hil, hb23⟩
    obtain rfl := IsL.unique hil (isL_one fm3 (frm (bodyM m1)) HG3.out)
    obtain ⟨Af, cf, rfl, p1, p2, p3⟩ := hfo.rd.open_
    have hs23 := hb23.size
    have hB23 : Below H w w23 := hB22.trans (hb23.mono (by omega))
    unfold maxLen at p2
    have HP3 := Lib.hid p3
    clear p3 CV
    go_wp2_with fail
    (with_reducible refine (mworks_any w23 (HEB.out _ hB23)).mono ?_)
    rintro ez wz ⟨rfl, hbz⟩
    go_wp2_with fail
    go_ret
    exact ⟨rfl, (hB23).trans (hbz.mono (by omega))⟩
  case neg =>
    obtain hm1 : mx = m1 := hmx.resolve_left hm0
    rw [decide_eq_false hm0]
    have hP13 := (hb13.block H (by omega)).trans hPX
    have hQ13' := (hb13.block (H + 1) (by omega)).trans hQX
    have hT13' := (hb13.block w12.heap.size (by omega)).trans hTX
    have CS2 := Lib.hid (rsame_any (fun b => b < w13.heap.size) (· < H) As cs mx A1 k1 m1 w13 ((Rd.of_own (hOX.below hb13)).wide fun b hb => hb.2) (hr1X.keep fun b hb => hb13.block b (by omega)) (fun _ h => h) (fun b hb => by omega))
    rw [decide_eq_true hm1] at CS2
    clear hm1 hm0 hmx
    have t0 : w13.cell? ⟨w12.heap.size, 0, none⟩ = some (.string (strB mx.base)) := cell_of_row _ _ 0 _ _ _ hT13'
    have t1 : w13.cell? ⟨w12.heap.size, 1, none⟩ = some (.slice As mx.segs.length cs) := cell_of_row _ _ 1 _ _ _ hT13'
    have t2 : w13.cell? ⟨w12.heap.size, 2, none⟩ = some (.string (strB mx.log)) := cell_of_row _ _ 2 _ _ _ hT13'
    have t3 : w13.cell? ⟨w12.heap.size, 3, none⟩ = some (.int .i64 mx.tx) := cell_of_row _ _ 3 _ _ _ hT13'
    have t4 : w13.cell? ⟨w12.heap.size, 4, none⟩ = some (.int .i64 mx.nx) := cell_of_row _ _ 4 _ _ _ hT13'
    have c0 : w13.cell? ⟨H + 1, 0, none⟩ = some (.string (strB m1.base)) := cell_of_row _ _ 0 _ _ _ hQ13'
    have c1 : w13.cell? ⟨H + 1, 1, none⟩ = some (.slice A1 m1.segs.length k1) := cell_of_row _ _ 1 _ _ _ hQ13'
    have c2 : w13.cell? ⟨H + 1, 2, none⟩ = some (.string (strB m1.log)) := cell_of_row _ _ 2 _ _ _ hQ13'
    have c3 : w13.cell? ⟨H + 1, 3, none⟩ = some (.int .i64 m1.tx) := cell_of_row _ _ 3 _ _ _ hQ13'
    have c4 : w13.cell? ⟨H + 1, 4, none⟩ = some (.int .i64 m1.nx) := cell_of_row _ _ 4 _ _ _ hQ13'
    go_wp2_with fail
    (with_reducible refine CS2.out.mono ?_)
    rintro e14 w14 ⟨rfl, hb14⟩
    have hs14 := hb14.size
    have hbX14 : Below X.heap.size X w14 := hb13.trans (hb14.mono (by omega))
    have hD14 := hDX.below (by omega) (hbX14)
    have hT14 := (hbX14.block w12.heap.size (by omega)).trans hTX
    have hQ14 := (hbX14.block (H + 1) (by omega)).trans hQX
    have hB14 : Below H w w14 := hBX.trans (hbX14.mono (by omega))
    have hr1 : Rd w14 (· < H) 1 (.slice A1 m1.segs.length k1) m1.segs.length (sv m1.segs) := hr1X.keep fun b hb => hbX14.block b (by omega)
    have CW := Lib.hid (mwrite_any H (0 + (bodyM m0).length + 20 + l.length + 1 + 1 + (frm (bodyM m1)).length + 1 + 1) D none fm3 [] (· < H) A1 k1 m1 w14 (by omega) hD14 (by omega) hr1 (fun b hb => by omega) (by omega) (fun s hs => by have := tm3 s hs; omega) (by omega))
    clear c0 c1 c2 c3 c4 t0 t1 t2 t3 t4 CS0
    have c0 : w14.cell? ⟨H + 1, 0, none⟩ = some (.string (strB m1.base)) := cell_of_row _ _ 0 _ _ _ hQ14
    have c1 : w14.cell? ⟨H + 1, 1, none⟩ = some (.slice A1 m1.segs.length k1) := cell_of_row _ _ 1 _ _ _ hQ14
    have c2 : w14.cell? ⟨H + 1, 2, none⟩ = some (.string (strB m1.log)) := cell_of_row _ _ 2 _ _ _ hQ14
    have c3 : w14.cell? ⟨H + 1, 3, none⟩ = some (.int .i64 m1.tx) := cell_of_row _ _ 3 _ _ _ hQ14
    have c4 : w14.cell? ⟨H + 1, 4, none⟩ = some (.int .i64 m1.nx) := cell_of_row _ _ 4 _ _ _ hQ14
    go_wp2_with fail
    (with_reducible refine CW.out.mono ?_)
    rintro e20 w20 ⟨hen, _, hok⟩
    obtain ⟨hD20, hc20⟩ := hok hk1
    rw [hk1] at hen
    subst hen
    have hs20 := hc20.size
    have hT20 := (hc20.block w12.heap.size (by omega) (hD14.not_log hT14 (by decide) (by decide))).trans hT14
    have hQ20 := (hc20.block (H + 1) (by omega) (hD14.not_log hQ14 (by decide) (by decide))).trans hQ14
    have hB20 : Below H w w20 := hB14.trans (hD14.bel (by omega) hc20)
    have hv20 : viewF (wrF (viewF fm3 []) (frm (bodyM m1))) [] fileN = some (frm (bodyM m1)) := rfl
    have CR := Lib.hid (mread_any H _ D none _ [] w20 (by omega) hD20 (by omega) (by intro l hl; rw [hv20] at hl; injection hl with hl; subst hl; omega))
    have hrf : readF (some (frm (bodyM m1))) = (m1, true, 0) := by unfold readF; simp only [decM_put hk1 (show (bodyM m1).length ≤ 1048576 by omega)]; rfl
    rw [hv20, hrf] at CR
    clear CW hok c0 c1 c2 c3 c4 hrf hv20
    go_wp2_with fail
    (with_reducible refine CR.out.mono ?_)
    rintro e21 w21 ⟨Bs, ds, rfl, hO21, hb21⟩
    (try dsimp only at hO21)
    have hs21 := hb21.size
    have hT21 := (hb21.block w12.heap.size (by omega)).trans hT20
    have hQ21 := (hb21.block (H + 1) (by omega)).trans hQ20
    have hB21 : Below H w w21 := hB20.trans (hb21.mono (by omega))
    have hD21 := hD20.below (by omega) hb21
    obtain ⟨X21, hX21⟩ : ∃ X, X = (((((w21.setCell ⟨w12.heap.size, 0, none⟩ (.string (strB m1.base))).setCell ⟨w12.heap.size, 1, none⟩ (.slice Bs m1.segs.length ds)).setCell ⟨w12.heap.size, 2, none⟩ (.string (strB m1.log))).setCell ⟨w12.heap.size, 3, none⟩ (.int .i64 m1.tx)).setCell ⟨w12.heap.size, 4, none⟩ (.int .i64 m1.nx)) := ⟨_, rfl⟩
    have hc21 : Chg (· = w12.heap.size) w21 X21 := by rw [hX21]; exact five_chg' _ _ _ _ _ _ _
    have hsX21 := hc21.size
    have hTX21 : X21.heap[w12.heap.size]? = some (.cells (rowM Bs ds m1) 27 (0, 0)) := by rw [hX21]; exact row_set5 hT21 _ _ _ _ _
    have hQX21 := (hc21.block (H + 1) (by omega) (by omega)).trans hQ21
    have hBX21 : Below H w X21 := hB21.trans (hc21.below (by omega) (fun i hi => by omega))
    have hDX21 := hD21.keep (by omega) hc21 (fun b hb => ⟨by omega, by subst hb; exact ⟨_, _, _, hT21, by decide, by decide, by decide⟩⟩)
    have hOX21 : OwnS X21 w20.heap.size (.slice Bs m1.segs.length ds) m1.segs := by
      obtain ⟨q1, q2⟩ := hO21
      refine ⟨q1, ?_⟩
      rcases q2 with q2 | ⟨g, cap, cur, hv, hg, hr, rest⟩
      · exact .inl q2
      · exact .inr ⟨g, cap, cur, hv, hg, (hc21.block g (Array.getElem?_eq_some_iff.1 hr).1 (by omega)).trans hr, rest⟩
    have hr1' : Rd X21 (· < H) 1 (.slice A1 m1.segs.length k1) m1.segs.length (sv m1.segs) := hr1.keep fun b hb => (hBX21.block b hb).trans ((hB14.block b hb).symm)
    have CS1 := Lib.hid (rsame_any (fun b => b < X21.heap.size) (· < H) Bs ds m1 A1 k1 m1 X21 ((Rd.of_own hOX21).wide fun b hb => hb.2) hr1' (fun _ h => h) (fun b hb => by omega))
    rw [decide_eq_true rfl] at CS1
    have g0 : w21.cell? ⟨w12.heap.size, 0, none⟩ = some (.string (strB mx.base)) := cell_of_row _ _ 0 _ _ _ hT21
    have g1 : w21.cell? ⟨w12.heap.size, 1, none⟩ = some (.slice As mx.segs.length cs) := cell_of_row _ _ 1 _ _ _ hT21
    have g2 : w21.cell? ⟨w12.heap.size, 2, none⟩ = some (.string (strB mx.log)) := cell_of_row _ _ 2 _ _ _ hT21
    have g3 : w21.cell? ⟨w12.heap.size, 3, none⟩ = some (.int .i64 mx.tx) := cell_of_row _ _ 3 _ _ _ hT21
    have g4 : w21.cell? ⟨w12.heap.size, 4, none⟩ = some (.int .i64 mx.nx) := cell_of_row _ _ 4 _ _ _ hT21
    have f0 := frozen_of_row _ _ 0 _ _ hT21
    have f1 := frozen_of_row _ _ 1 _ _ hT21
    have f2 := frozen_of_row _ _ 2 _ _ hT21
    have f3 := frozen_of_row _ _ 3 _ _ hT21
    have f4 := frozen_of_row _ _ 4 _ _ hT21
    have t0 : X21.cell? ⟨w12.heap.size, 0, none⟩ = some (.string (strB m1.base)) := cell_of_row _ _ 0 _ _ _ hTX21
    have t1 : X21.cell? ⟨w12.heap.size, 1, none⟩ = some (.slice Bs m1.segs.length ds) := cell_of_row _ _ 1 _ _ _ hTX21
    have t2 : X21.cell? ⟨w12.heap.size, 2, none⟩ = some (.string (strB m1.log)) := cell_of_row _ _ 2 _ _ _ hTX21
    have t3 : X21.cell? ⟨w12.heap.size, 3, none⟩ = some (.int .i64 m1.tx) := cell_of_row _ _ 3 _ _ _ hTX21
    have t4 : X21.cell? ⟨w12.heap.size, 4, none⟩ = some (.int .i64 m1.nx) := cell_of_row _ _ 4 _ _ _ hTX21
    have c0 : X21.cell? ⟨H + 1, 0, none⟩ = some (.string (strB m1.base)) := cell_of_row _ _ 0 _ _ _ hQX21
    have c1 : X21.cell? ⟨H + 1, 1, none⟩ = some (.slice A1 m1.segs.length k1) := cell_of_row _ _ 1 _ _ _ hQX21
    have c2 : X21.cell? ⟨H + 1, 2, none⟩ = some (.string (strB m1.log)) := cell_of_row _ _ 2 _ _ _ hQX21
    have c3 : X21.cell? ⟨H + 1, 3, none⟩ = some (.int .i64 m1.tx) := cell_of_row _ _ 3 _ _ _ hQX21
    have c4 : X21.cell? ⟨H + 1, 4, none⟩ = some (.int .i64 m1.nx) := cell_of_row _ _ 4 _ _ _ hQX21
    rw [hX21] at t0 t1 t2 t3 t4 c0 c1 c2 c3 c4
    have HX21 := Lib.hid hX21
    clear CR hX21 hO21 hOX21 hr1'
    go_wp2_with fail
    rw [← HX21.out]
    (with_reducible refine CS1.out.mono ?_)
    rintro e22 w22 ⟨rfl, hb22⟩
    have hs22 := hb22.size
    have hD22 := hDX21.below (by omega) hb22
    have hB22 : Below H w w22 := hBX21.trans (hb22.mono (by omega))
    have CV := Lib.hid (dviewl_any H _ D _ [] w22 (by omega) hD22.rd (by omega))
    clear t0 t1 t2 t3 t4 c0 c1 c2 c3 c4 g0 g1 g2 g3 g4 f0 f1 f2 f3 f4 CS1
    go_wp2_with fail
    (with_reducible refine CV.out.mono ?_)
    rintro e23 w23 ⟨vf, fl, rfl, hfo, hil, hb23⟩
    obtain rfl := IsL.unique hil (isL_one fm3 (frm (bodyM m1)) HG3.out)
    obtain ⟨Af, cf, rfl, p1, p2, p3⟩ := hfo.rd.open_
    have hs23 := hb23.size
    have hB23 : Below H w w23 := hB22.trans (hb23.mono (by omega))
    unfold maxLen at p2
    have HP3 := Lib.hid p3
    clear p3 CV
    go_wp2_with fail
    (with_reducible refine (mworks_any w23 (HEB.out _ hB23)).mono ?_)
    rintro ez wz ⟨rfl, hbz⟩
    go_wp2_with fail
    go_ret
    exact ⟨rfl, (hB23).trans (hbz.mono (by omega))⟩
end Go.Proofs.YthjephhojngiaaaDoor
