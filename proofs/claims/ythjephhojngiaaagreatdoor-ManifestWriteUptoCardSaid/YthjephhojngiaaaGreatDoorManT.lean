/-
  Manifests: Read and Write.
-/
import Derived.Test.YthjephhojngiaaaGreatDoorManP
import Derived.Test.YthjephhojngiaaaGreatDoorManI
import Derived.Test.YthjephhojngiaaaGreatDoorWalA0
namespace Go.Proofs.YthjephhojngiaaaGreatDoor
open Go.RowKit Go.Lib Go.IntWalk

def fileN : List UInt8 := [77, 65, 78, 73, 70, 69, 83, 84]
def draftN : List UInt8 := [77, 65, 78, 73, 70, 69, 83, 84, 46, 110, 101, 119]
theorem fileV : Value.string ⟨#[77, 65, 78, 73, 70, 69, 83, 84]⟩ = .string (strB fileN) := rfl
theorem draftV : Value.string ⟨#[77, 65, 78, 73, 70, 69, 83, 84, 46, 110, 101, 119]⟩ = .string (strB draftN) := rfl
theorem file_word : wordF fileN = true := by decide
theorem draft_word : wordF draftN = true := by decide
/-- what Read answers -/
def readF : Option (List UInt8) → Man × Bool × Int
  | none => (.zero, false, 0)
  | some l => ((decM l).1, decide ((decM l).2 = 0), (decM l).2)
def MRead (r : Man × Bool × Int) (w0 : World) (e : Ending) (w : World) : Prop :=
  ∃ As cs, e = .returned (.tuple #[manV As cs r.1, .bool r.2.1, .int .i64 r.2.2]) ∧ OwnS w w0.heap.size (.slice As r.1.segs.length cs) r.1.segs ∧ Below w0.heap.size w0 w
theorem mread_results (tmps : Array Value) (w : World) (H : Nat) (m0 m1 m2 m3 m4 u x : Value) (h2 : tmps.getD 2 undef = .pointer (some ⟨H, 0, none⟩)) (h3 : tmps.getD 3 undef = u) (h4 : tmps.getD 4 undef = x)
    (hM : w.heap[H]? = some (.cells #[m0, m1, m2, m3, m4] 25 (0, 0))) :
    (results Tryz.f5 tmps).run Tryz.prog w = .ok (.tuple #[.agg #[m0, m1, m2, m3, m4], u, x]) w := by
  have q2 : tmps[2]?.getD undef = .pointer (some ⟨H, 0, none⟩) := by simpa using h2
  have q3 : tmps[3]?.getD undef = u := by simpa using h3
  have q4 : tmps[4]?.getD undef = x := by simpa using h4
  have r1 := run_loadVar_row (P := Tryz.prog) w H _ 25 _ _ _ hM Tryz.underlying25 rfl (by kernel_rfl)
  have e : (results Tryz.f5 tmps) = (do
      let vs ← (#[.cell 2 25, .tmp 3, .tmp 4] : Array ResultVar).mapM fun
        | .tmp t => pure (tmps.getD t undef)
        | .cell a t => do loadVar t (← asAddr (tmps.getD a undef))
      pure (if h : vs.size = 1 then vs[0] else .tuple vs)) := rfl
  rw [e]
  simp [asAddr, q2, q3, q4, r1]
theorem five_chg' (w : World) (H : Nat) (u0 u1 u2 u3 u4 : Value) : Chg (· = H) w (((((w.setCell ⟨H, 0, none⟩ u0).setCell ⟨H, 1, none⟩ u1).setCell ⟨H, 2, none⟩ u2).setCell ⟨H, 3, none⟩ u3).setCell ⟨H, 4, none⟩ u4) :=
  (((((Chg.refl (· = H) w).setCell (.inl rfl) _).setCell (.inl rfl) _).setCell (.inl rfl) _).setCell (.inl rfl) _).setCell (.inl rfl) _
theorem DiskAt.file {B Z : Nat} {w : World} {D : Nat} {P : Option Nat} {fm : FM} {os : List DOp} (h : DiskAt B Z w D P fm os) {nm l : List UInt8} (hv : viewF fm os nm = some l) : l.length ≤ Z := by
  obtain ⟨M, n, g, pv, hb, hBD, hBM, hM, hn, hG, hO, hZ, hP⟩ := h
  have := hZ.view.file nm l hv
  omega
set_option maxRecDepth 100000 in
set_option maxHeartbeats 2000000 in
theorem mread_any (B Z D : Nat) (P : Option Nat) (fm : FM) (os : List DOp) (w : World) (hB : B ≤ w.heap.size) (hD : DiskAt B Z w D P fm os) (hZ : Z ≤ 1099511627776) (hz : ∀ l, viewF fm os fileN = some l → l.length ≤ 1000000) :
    Calls Tryz.prog 5 #[.pointer (some ⟨D, 0, none⟩)] w (MRead (readF (viewF fm os fileN)) w) := by
  obtain ⟨W, hW⟩ : ∃ W, W = w.alloc (.cells #[.string ⟨#[]⟩, .slice none 0 0, .string ⟨#[]⟩, .int .i64 0, .int .i64 0] 25) := ⟨_, rfl⟩
  have hbW : Below w.heap.size w W := by rw [hW]; exact Below.of_alloc _
  have hsW : W.heap.size = w.heap.size + 1 := by rw [hW]; simp
  have hM : W.heap[w.heap.size]? = some (.cells #[.string ⟨#[]⟩, .slice none 0 0, .string ⟨#[]⟩, .int .i64 0, .int .i64 0] 25 (0, 0)) := by rw [hW]; exact heap_alloc_new w _
  have CR := Lib.hid (dread_any B Z D fm os fileN W (by omega) (hD.below hB hbW).rd hZ (by decide))
  have HW := Lib.hid hW
  clear hW
  generalize hH : w.heap.size = H at *
  have HH := Lib.hid hH
  clear hH
  cases ho : viewF fm os fileN with
  | none =>
    rw [ho] at CR
    clear hz ho
    go_enter Tryz.func5, Tryz.ntmps5
    go_wp2_with fail
    rw [← HW.out, fileV]
    (with_reducible refine CR.out.mono ?_)
    rintro e1 w1 ⟨v1, rfl, _, hb1⟩
    rw [HH.out]
    have hM1 := (hb1.block H (by omega)).trans hM
    have c0 : w1.cell? ⟨H, 0, none⟩ = some (.string ⟨#[]⟩) := cell_of_row _ _ 0 _ _ _ hM1
    have c1 : w1.cell? ⟨H, 1, none⟩ = some (.slice none 0 0) := cell_of_row _ _ 1 _ _ _ hM1
    have c2 : w1.cell? ⟨H, 2, none⟩ = some (.string ⟨#[]⟩) := cell_of_row _ _ 2 _ _ _ hM1
    have c3 : w1.cell? ⟨H, 3, none⟩ = some (.int .i64 0) := cell_of_row _ _ 3 _ _ _ hM1
    have c4 : w1.cell? ⟨H, 4, none⟩ = some (.int .i64 0) := cell_of_row _ _ 4 _ _ _ hM1
    have f0 := frozen_of_row _ _ 0 _ _ hM1
    have f1 := frozen_of_row _ _ 1 _ _ hM1
    have f2 := frozen_of_row _ _ 2 _ _ hM1
    have f3 := frozen_of_row _ _ 3 _ _ hM1
    have f4 := frozen_of_row _ _ 4 _ _ hM1
    have hnot : ∀ (x : Bool) (w : World), (Op.unary .not (.bool x)).run Tryz.prog w = .ok (.bool (!x)) w := fun _ _ => rfl
    simp only [Option.isSome_none]
    go_wp2_with fail
    have hrow := row_set5 hM1 (.string ⟨#[]⟩) (.slice none 0 0) (.string ⟨#[]⟩) (.int .i64 0) (.int .i64 0)
    refine bodyPost_ret (mread_results _ _ H _ _ _ _ _ _ _ rfl rfl rfl hrow) rfl ⟨none, 0, rfl, OwnS.nil _ _, ?_⟩
    rw [HH.out]
    exact hbW.trans ((hb1.mono (by omega)).trans ((five_chg' w1 H _ _ _ _ _).below (by have := hb1.size; omega) (fun i hi => by omega)))
  | some l =>
    have hl := hz l ho
    rw [ho] at CR
    clear hz ho
    rw [show readF (some l) = ((decM l).1, decide ((decM l).2 = 0), (decM l).2) from rfl]
    generalize hdm : decM l = dm
    obtain ⟨m, ce⟩ := dm
    dsimp only
    obtain ⟨bb, hbb⟩ : ∃ b, b = decide (ce = 0) := ⟨_, rfl⟩
    have hbe : (ce == 0) = bb := by rw [hbb]; rfl
    rw [← hbb]
    clear hbb
    go_enter Tryz.func5, Tryz.ntmps5
    go_wp2_with fail
    rw [← HW.out, fileV]
    (with_reducible refine CR.out.mono ?_)
    rintro e1 w1 ⟨v1, rfl, hO1, hb1⟩
    rw [HH.out]
    have hs1 := hb1.size
    have hM1 := (hb1.block H (by omega)).trans hM
    have hnot : ∀ (x : Bool) (w : World), (Op.unary .not (.bool x)).run Tryz.prog w = .ok (.bool (!x)) w := fun _ _ => rfl
    simp only [Option.isSome_some]
    simp only [Option.getD_some] at hO1
    have CD := Lib.hid (decode_any v1 l w1 hO1.rd hl)
    rw [hdm] at CD
    go_wp2_with fail
    (with_reducible refine CD.out.mono ?_)
    rintro e2 w2 ⟨As, cs, rfl, hO2, hb2⟩
    dsimp only at hO2
    have hs2 := hb2.size
    have hM2 := (hb2.block H (by omega)).trans hM1
    obtain ⟨X, hX⟩ : ∃ X, X = w2.alloc (.cells (rowM As cs m) 25) := ⟨_, rfl⟩
    have hbX : Below w2.heap.size w2 X := by rw [hX]; exact Below.of_alloc _
    have hMX := (hbX.block H (by omega)).trans hM2
    have hRX : X.heap[w2.heap.size]? = some (.cells (rowM As cs m) 25 (0, 0)) := by rw [hX]; exact heap_alloc_new _ _
    have d0 : X.cell? ⟨w2.heap.size, 0, none⟩ = some (.string (strB m.base)) := cell_of_row _ _ 0 _ _ _ hRX
    have d1 : X.cell? ⟨w2.heap.size, 1, none⟩ = some (.slice As m.segs.length cs) := cell_of_row _ _ 1 _ _ _ hRX
    have d2 : X.cell? ⟨w2.heap.size, 2, none⟩ = some (.string (strB m.log)) := cell_of_row _ _ 2 _ _ _ hRX
    have d3 : X.cell? ⟨w2.heap.size, 3, none⟩ = some (.int .i64 m.tx) := cell_of_row _ _ 3 _ _ _ hRX
    have d4 : X.cell? ⟨w2.heap.size, 4, none⟩ = some (.int .i64 m.nx) := cell_of_row _ _ 4 _ _ _ hRX
    have c0 : X.cell? ⟨H, 0, none⟩ = some (.string ⟨#[]⟩) := cell_of_row _ _ 0 _ _ _ hMX
    have c1 : X.cell? ⟨H, 1, none⟩ = some (.slice none 0 0) := cell_of_row _ _ 1 _ _ _ hMX
    have c2 : X.cell? ⟨H, 2, none⟩ = some (.string ⟨#[]⟩) := cell_of_row _ _ 2 _ _ _ hMX
    have c3 : X.cell? ⟨H, 3, none⟩ = some (.int .i64 0) := cell_of_row _ _ 3 _ _ _ hMX
    have c4 : X.cell? ⟨H, 4, none⟩ = some (.int .i64 0) := cell_of_row _ _ 4 _ _ _ hMX
    have f0 := frozen_of_row _ _ 0 _ _ hMX
    have f1 := frozen_of_row _ _ 1 _ _ hMX
    have f2 := frozen_of_row _ _ 2 _ _ hMX
    have f3 := frozen_of_row _ _ 3 _ _ hMX
    have f4 := frozen_of_row _ _ 4 _ _ hMX
    rw [hX] at c0 c1 c2 c3 c4 f0 f1 f2 f3 f4 d0 d1 d2 d3 d4
    have HX := Lib.hid hX
    clear hX
    go_wp2_with fail
    rw [← HX.out]
    have hrow := row_set5 hMX (.string (strB m.base)) (.slice As m.segs.length cs) (.string (strB m.log)) (.int .i64 m.tx) (.int .i64 m.nx)
    have hc := five_chg' X H (.string (strB m.base)) (.slice As m.segs.length cs) (.string (strB m.log)) (.int .i64 m.tx) (.int .i64 m.nx)
    refine bodyPost_ret (mread_results _ _ H _ _ _ _ _ _ _ rfl rfl rfl hrow) rfl ⟨As, cs, rfl, ?_, ?_⟩
    · obtain ⟨k1, k2⟩ := hO2
      refine ⟨k1, ?_⟩
      rcases k2 with k2 | ⟨g, cap, cur, hv, hg, hr, rest⟩
      · exact .inl k2
      · have hgl : g < w2.heap.size := (Array.getElem?_eq_some_iff.1 hr).1
        exact .inr ⟨g, cap, cur, hv, by rw [HH.out]; omega, (hc.block g (by have := hbX.size; omega) (by omega)).trans ((hbX.block g hgl).trans hr), rest⟩
    · rw [HH.out]
      exact hbW.trans ((hb1.mono (by omega)).trans ((hb2.mono (by omega)).trans ((hbX.mono (by omega)).trans (hc.below (by have := hbX.size; omega) (fun i hi => by omega)))))
/-- the files behind Write -/
def wrF (g : FM) (b : List UInt8) : FM := fun x => if x = fileN then some b else if x = draftN then none else g x
def wrOps (ex : Bool) (b : List UInt8) : List DOp := (if ex then [⟨1, draftN, [], []⟩] else []) ++ [⟨0, draftN, [], b⟩] ++ [⟨2, draftN, fileN, []⟩]
theorem view_wr (g : FM) (b : List UInt8) : viewF g (wrOps (g draftN).isSome b) = wrF g b := by
  have hne : fileN ≠ draftN := by decide
  cases h : g draftN with
  | none =>
    funext x
    simp only [wrOps, Option.isSome_none, Bool.false_eq_true, if_false, List.nil_append, List.cons_append, viewF, List.foldl_cons, List.foldl_nil, applyF, updG, if_true, wrF, h]
    by_cases h1 : x = fileN
    · simp [updG, h1]
    · by_cases h2 : x = draftN
      · simp [updG, h2, Ne.symm hne]
      · simp [updG, h1, h2]
  | some l =>
    funext x
    simp only [wrOps, Option.isSome_some, if_true, List.cons_append, List.nil_append, viewF, List.foldl_cons, List.foldl_nil, applyF, updG, wrF]
    by_cases h1 : x = fileN
    · simp [updG, h1]
    · by_cases h2 : x = draftN
      · simp [updG, h2, Ne.symm hne]
      · simp [updG, h1, h2]
theorem viewF_append (fm : FM) (a b : List DOp) : viewF fm (a ++ b) = viewF (viewF fm a) b := by unfold viewF; rw [List.foldl_append]
/-- behind Write -/
def MWrite (B Z D : Nat) (P : Option Nat) (fm : FM) (os : List DOp) (m : Man) (w0 : World) (e : Ending) (w : World) : Prop :=
  e = .returned (.int .i64 (chkF m)) ∧ (chkF m ≠ 0 → DiskAt B Z w D P fm os ∧ Below w0.heap.size w0 w) ∧ (chkF m = 0 → DiskAt B (Z + (bodyM m).length + 20) w D none (wrF (viewF fm os) (frm (bodyM m))) [] ∧ Chg (fun b => b = D ∨ some b = P) w0 w)
theorem DPush.next {B Z D : Nat} {P P1 : Option Nat} {fm : FM} {os : List DOp} {w0 w1 w2 : World} (hc : Chg (fun b => b = D ∨ some b = P) w0 w1) (hp : P1 = P ∨ ∃ p, P1 = some p ∧ w0.heap.size ≤ p) (h : DPush B Z D P1 fm os w1 w2) : DPush B Z D P fm os w0 w2 := by
  obtain ⟨P', hD, hP, hC⟩ := h
  refine ⟨P', hD, ?_, hc.trans hC (fun i hi h => ?_)⟩
  · rcases hP with h | ⟨p, h, hp'⟩
    · rcases hp with h' | h'
      · exact .inl (h.trans h')
      · rw [h]; exact .inr h'
    · exact .inr ⟨p, h, Nat.le_trans hc.size hp'⟩
  · rcases h with h | h
    · exact .inl h
    · rcases hp with h' | ⟨p, h', hp'⟩
      · exact .inr (h.trans h')
      · rw [h'] at h; injection h with h; omega
set_option maxRecDepth 100000 in
set_option maxHeartbeats 4000000 in
theorem mwrite_any (B Z D : Nat) (P : Option Nat) (fm : FM) (os : List DOp) (F : Nat → Prop) (As : Option Addr) (cs : Nat) (m : Man) (w : World) (hB : B ≤ w.heap.size) (hD : DiskAt B Z w D P fm os) (hZ : Z ≤ 1099500000000)
    (h : Rd w F 1 (.slice As m.segs.length cs) m.segs.length (sv m.segs)) (hF : ∀ b, F b → b < w.heap.size) (hl : m.segs.length ≤ 1000000) (hnl : ∀ s ∈ nmsF m, s.length ≤ 1000000) (hbd : (bodyM m).length ≤ 1048576) :
    Calls Tryz.prog 7 #[.pointer (some ⟨D, 0, none⟩), manV As cs m] w (MWrite B Z D P fm os m w) := by
  obtain ⟨W, hW⟩ : ∃ W, W = w.alloc (.cells (rowM As cs m) 25) := ⟨_, rfl⟩
  have hbW : Below w.heap.size w W := by rw [hW]; exact Below.of_alloc _
  have hsW : W.heap.size = w.heap.size + 1 := by rw [hW]; simp
  have hPW : W.heap[w.heap.size]? = some (.cells (rowM As cs m) 25 (0, 0)) := by rw [hW]; exact heap_alloc_new w _
  have c0 : W.cell? ⟨w.heap.size, 0, none⟩ = some (.string (strB m.base)) := cell_of_row _ _ 0 _ _ _ hPW
  have c1 : W.cell? ⟨w.heap.size, 1, none⟩ = some (.slice As m.segs.length cs) := cell_of_row _ _ 1 _ _ _ hPW
  have c2 : W.cell? ⟨w.heap.size, 2, none⟩ = some (.string (strB m.log)) := cell_of_row _ _ 2 _ _ _ hPW
  have c3 : W.cell? ⟨w.heap.size, 3, none⟩ = some (.int .i64 m.tx) := cell_of_row _ _ 3 _ _ _ hPW
  have c4 : W.cell? ⟨w.heap.size, 4, none⟩ = some (.int .i64 m.nx) := cell_of_row _ _ 4 _ _ _ hPW
  have CE := Lib.hid (encode_any F As cs m W (h.keep fun b hb => hbW.block b (hF b hb)) (fun b hb => by have := hF b hb; omega) hl hnl hbd)
  have hDW : DiskAt B Z W D P fm os := hD.below hB hbW
  rw [hW] at c0 c1 c2 c3 c4
  have HW := Lib.hid hW
  have HBW := Lib.hid hbW
  obtain ⟨_, _, hce, x1, x2, x3⟩ := Rd.open_ h
  have HX3 := Lib.hid x3
  unfold maxLen at x2
  clear hW hPW h hF hnl hbW x3 hce x1 x2
  have hBW : B ≤ W.heap.size := by omega
  by_cases hz : chkF m = 0
  case neg =>
    rw [show encM m = ([], chkF m) from if_neg hz] at CE
    have HMW : Hid (∀ w', Below W.heap.size W w' → MWrite B Z D P fm os m w (.returned (.int .i64 (chkF m))) w') := Lib.hid fun w' hb => ⟨rfl, fun _ => ⟨hDW.below hBW hb, HBW.out.trans (hb.mono (by omega))⟩, fun h => absurd h hz⟩
    generalize MWrite B Z D P fm os m w = Q at *
    generalize chkF m = ce at *
    have b1 : (ce != 0) = true := by rw [bne_iff_ne]; exact hz
    go_enter Tryz.func7, Tryz.ntmps7
    go_wp2_with fail
    rw [← HW.out]
    (with_reducible refine CE.out.mono ?_)
    rintro e1 w1 ⟨_, rfl, _, hb1⟩
    go_wp2_with fail
    (try go_ret)
    exact HMW.out _ hb1
  case pos =>
    rw [show encM m = (frm (bodyM m), 0) from if_pos hz] at CE
    have hfl := frm_length (bodyM m)
    have HMW : Hid (∀ w', DiskAt B (Z + (bodyM m).length + 20) w' D none (wrF (viewF fm os) (frm (bodyM m))) [] → Chg (fun b => b = D ∨ some b = P) w w' → MWrite B Z D P fm os m w (.returned (.int .i64 0)) w') := Lib.hid fun w' h1 h2 => ⟨by rw [hz], fun h => absurd hz h, fun _ => ⟨h1, h2⟩⟩
    generalize MWrite B Z D P fm os m w = Q at *
    generalize hbl : (bodyM m).length = N at *
    generalize frm (bodyM m) = b at *
    clear hz hbl
    go_enter Tryz.func7, Tryz.ntmps7
    go_wp2_with fail
    rw [← HW.out]
    (with_reducible refine CE.out.mono ?_)
    rintro e1 w1 ⟨v1, rfl, hO1, hb1⟩
    have hD1 := hDW.below hBW hb1
    have hs1 := hb1.size
    have hc1 : Chg (fun b => b = D ∨ some b = P) w w1 := Chg.of_below (HBW.out.trans (hb1.mono (by omega))) _
    clear CE c0 c1 c2 c3 c4 hDW hD hb1
    have CR := Lib.hid (dread_any B Z D fm os draftN w1 (by omega) hD1.rd (by omega) (by decide))
    have hvw := view_wr (viewF fm os) b
    go_wp2_with fail
    rw [draftV]
    (with_reducible refine CR.out.mono ?_)
    rintro e2 w2 ⟨v2, rfl, hO2, hb2⟩
    have hD2 := hD1.below (by omega) hb2
    have hs2 := hb2.size
    have hc2 : Chg (fun b => b = D ∨ some b = P) w w2 := hc1.then_below hb2
    have hd2 : DatB B w2 v1 b := (DatB.of_own hO1).below (by omega) hb2
    clear CR hD1 hb2 hO2 hc1 hO1
    generalize hexd : (viewF fm os draftN).isSome = ex at *
    have HEX := Lib.hid hexd
    clear hexd
    -- the draft is removed, if there is one
    have HVW := Lib.hid hvw
    clear hvw
    cases ex with
    | true =>
      have CM := Lib.hid (dremove_ok B Z D P fm os draftN w2 (by omega) hD2 (by decide) (by omega) HEX.out)
      go_wp2_with fail
      rw [draftV]
      (with_reducible refine CM.out.mono ?_)
      rintro e3 w3 ⟨rfl, hP3⟩
      have hd3 : DatB B w3 v1 b := by
        obtain ⟨_, _, _, hc⟩ := hP3
        exact hd2.chg (by omega) hc hD2.br
      obtain ⟨P3, hD3, hp3, hc3⟩ := hP3.next hc2 (.inl rfl)
      have hs3 := hc3.size
      clear CM hP3
      have CA := Lib.hid (dappend_ok B (Z + 1) D P3 fm (os ++ [⟨1, draftN, [], []⟩]) draftN v1 b w3 (by omega) hD3 draft_word (hd3.rd (by omega)) (by omega) (by omega))
      go_wp2_with fail
      rw [draftV]
      (with_reducible refine CA.out.mono ?_)
      rintro e4 w4 ⟨rfl, hP4⟩
      obtain ⟨P4, hD4, hp4, hc4⟩ := hP4.next hc3 hp3
      have hs4 := hc4.size
      clear CA hP4
      have CN := Lib.hid (drename_ok B (Z + 1 + b.length + 1) D P4 fm (os ++ [⟨1, draftN, [], []⟩] ++ [⟨0, draftN, [], b⟩]) draftN fileN w4 (by omega) hD4 (by decide) (by omega) (by rw [viewF_append]; simp [viewF, applyF, updG]) file_word)
      go_wp2_with fail
      rw [draftV, fileV]
      (with_reducible refine CN.out.mono ?_)
      rintro e5 w5 ⟨rfl, hP5⟩
      obtain ⟨P5, hD5, hp5, hc5⟩ := hP5.next hc4 hp4
      have hs5 := hc5.size
      clear CN hP5
      have CS := Lib.hid (dsync_any B (Z + 1 + b.length + 1 + 1) D fm (os ++ [⟨1, draftN, [], []⟩] ++ [⟨0, draftN, [], b⟩] ++ [⟨2, draftN, fileN, []⟩]) w5 (by omega) hD5.rd (by omega))
      go_wp2_with fail
      (with_reducible refine CS.out.mono ?_)
      rintro e6 w6 ⟨u6, rfl, hD6, hc6⟩
      go_wp2_with fail
      (try go_ret)
      refine HMW.out _ ?_ (hc5.trans hc6 (fun i hi h => .inl h))
      have hvw := HVW.out
      rw [← hvw, ← viewF_append]
      exact DiskAt.mono (by simpa [wrOps] using hD6) (by omega)
    | false =>
      have CA := Lib.hid (dappend_ok B (Z) D P fm (os) draftN v1 b w2 (by omega) hD2 draft_word (hd2.rd (by omega)) (by omega) (by omega))
      go_wp2_with fail
      rw [draftV]
      (with_reducible refine CA.out.mono ?_)
      rintro e4 w4 ⟨rfl, hP4⟩
      obtain ⟨P4, hD4, hp4, hc4⟩ := hP4.next hc2 (.inl rfl)
      have hs4 := hc4.size
      clear CA hP4
      have CN := Lib.hid (drename_ok B (Z + b.length + 1) D P4 fm (os ++ [⟨0, draftN, [], b⟩]) draftN fileN w4 (by omega) hD4 (by decide) (by omega) (by rw [viewF_append]; simp [viewF, applyF, updG]) file_word)
      go_wp2_with fail
      rw [draftV, fileV]
      (with_reducible refine CN.out.mono ?_)
      rintro e5 w5 ⟨rfl, hP5⟩
      obtain ⟨P5, hD5, hp5, hc5⟩ := hP5.next hc4 hp4
      have hs5 := hc5.size
      clear CN hP5
      have CS := Lib.hid (dsync_any B (Z + b.length + 1 + 1) D fm (os ++ [⟨0, draftN, [], b⟩] ++ [⟨2, draftN, fileN, []⟩]) w5 (by omega) hD5.rd (by omega))
      go_wp2_with fail
      (with_reducible refine CS.out.mono ?_)
      rintro e6 w6 ⟨u6, rfl, hD6, hc6⟩
      go_wp2_with fail
      (try go_ret)
      refine HMW.out _ ?_ (hc5.trans hc6 (fun i hi h => .inl h))
      have hvw := HVW.out
      rw [← hvw, ← viewF_append]
      exact DiskAt.mono (by simpa [wrOps] using hD6) (by omega)
end Go.Proofs.YthjephhojngiaaaGreatDoor
