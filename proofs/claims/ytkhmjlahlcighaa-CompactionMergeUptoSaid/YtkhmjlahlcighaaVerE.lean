/-
  Lists of versions: as they lie; checkVersions.
-/
import Derived.Test.YtkhmjlahlcighaaVerD
namespace Go.Proofs.Ytkhmjlahlcighaa
open Go.RowKit Go.Lib Go.IntWalk Go.Sort Go.Shelf

theorem flat_getC {α β : Type} (n : Nat) (ps : List α) (f : α → List β) (hf : ∀ x ∈ ps, (f x).length = n) (k j : Nat) (hj : j < n) (x : α) (hx : ps[k]? = some x) : (ps.flatMap f)[k * n + j]? = (f x)[j]? := by
  induction ps generalizing k with
  | nil => simp at hx
  | cons p ps ih =>
    have hp := hf p (List.mem_cons_self ..)
    cases k with
    | zero =>
      simp only [List.getElem?_cons_zero, Option.some.injEq] at hx
      subst hx
      rw [List.flatMap_cons, Nat.zero_mul, Nat.zero_add, List.getElem?_append_left (by rw [hp]; exact hj)]
    | succ k =>
      simp only [List.getElem?_cons_succ] at hx
      rw [List.flatMap_cons, List.getElem?_append_right (by rw [hp, Nat.succ_mul]; omega), hp, show (k + 1) * n + j - n = k * n + j by rw [Nat.succ_mul]; omega]
      exact ih (fun x hx => hf x (List.mem_cons_of_mem _ hx)) k hx
theorem flat_lenC {α β : Type} (n : Nat) (ps : List α) (f : α → List β) (hf : ∀ x ∈ ps, (f x).length = n) : (ps.flatMap f).length = ps.length * n := by
  induction ps with
  | nil => simp
  | cons p ps ih => rw [List.flatMap_cons, List.length_append, hf p (List.mem_cons_self ..), ih (fun x hx => hf x (List.mem_cons_of_mem _ hx)), List.length_cons, Nat.succ_mul]; omega

def ltV (x y : Ver) : Bool := decide (x.id < y.id ∨ (x.id = y.id ∧ (x.sf < y.sf ∨ (x.sf = y.sf ∧ x.vf < y.vf))))
theorem VerIs.lt {w w' : World} {F G : Nat → Prop} {r s : RV} {x y : Ver} (h : VerIs w F r x) (k : VerIs w' G s y) : ltOf cmpV r s = ltV x y := by
  rw [Bool.eq_iff_iff, ltOf_cmpV, ltV, decide_eq_true_eq, lexV, h.id, h.sf, h.vf, k.id, k.sf, k.vf]
def okPrev (p : Option Ver) (x : Ver) : Bool := match p with | some y => ltV y x | none => true
/-- the error of a list of versions -/
def chkFrom : Option Ver → List Ver → Int
  | _, [] => 0
  | p, x :: r => if validVer x = true then (if okPrev p x = true then chkFrom (some x) r else 9) else 8
theorem chkFrom_cons (p : Option Ver) (x : Ver) (r : List Ver) : chkFrom p (x :: r) = if validVer x = true then (if okPrev p x = true then chkFrom (some x) r else 9) else 8 := by cases p <;> rfl
theorem ret_int {a b : Int} (h : a = b) : Ending.returned (.int .i64 a) = .returned (.int .i64 b) := by rw [h]
def prevV (xs : List Ver) (k : Nat) : Option Ver := if k = 0 then none else xs[k - 1]?
theorem chk_step {xs : List Ver} {k : Nat} (hk : k < xs.length) : chkFrom (prevV xs k) (xs.drop k) = if validVer xs[k] = true then (if okPrev (prevV xs k) xs[k] = true then chkFrom (prevV xs (k + 1)) (xs.drop (k + 1)) else 9) else 8 := by
  have e : prevV xs (k + 1) = some xs[k] := by unfold prevV; rw [if_neg (by omega), Nat.add_sub_cancel, List.getElem?_eq_getElem hk]
  rw [List.drop_eq_getElem_cons hk, chkFrom_cons, e]
theorem chk_end {xs : List Ver} {k : Nat} (hk : k = xs.length) : chkFrom (prevV xs k) (xs.drop k) = 0 := by subst hk; rw [List.drop_length]; rfl
theorem chkFrom_cases (p : Option Ver) (xs : List Ver) : chkFrom p xs = 0 ∨ chkFrom p xs = 8 ∨ chkFrom p xs = 9 := by
  induction xs generalizing p with
  | nil => exact .inl rfl
  | cons x r ih =>
    rw [chkFrom_cons]
    split
    · split
      · exact ih _
      · exact .inr (.inr rfl)
    · exact .inr (.inl rfl)
theorem chkFrom_valid {p : Option Ver} {xs : List Ver} (h : chkFrom p xs = 0) : ∀ x ∈ xs, validVer x = true := by
  induction xs generalizing p with
  | nil => intro x hx; cases hx
  | cons x r ih =>
    rw [chkFrom_cons] at h
    split at h
    · rename_i hv
      split at h
      · intro y hy
        rcases List.mem_cons.1 hy with rfl | hy
        · exact hv
        · exact ih h y hy
      · cases h
    · cases h

abbrev VP := RV × Ver
/-- v is a slice of versions -/
def RdVs (w : World) (F : Nat → Prop) (v : Value) (ps : List VP) : Prop := Rd w F 9 v ps.length (ps.flatMap fun p => p.1.enc) ∧ ∀ p ∈ ps, VerIs w F p.1 p.2
theorem RdVs.keep {w w' : World} {F : Nat → Prop} {v : Value} {ps : List VP} (h : RdVs w F v ps) (hk : Keeps F w w') : RdVs w' F v ps := ⟨h.1.keep hk, fun p hp => (h.2 p hp).keep hk⟩
theorem RdVs.wide {w : World} {F G : Nat → Prop} {v : Value} {ps : List VP} (h : RdVs w F v ps) (hk : ∀ b, F b → G b) : RdVs w G v ps := ⟨h.1.wide hk, fun p hp => (h.2 p hp).wide hk⟩
theorem RdVs.below {w w' : World} {v : Value} {ps : List VP} (h : RdVs w (· < w.heap.size) v ps) (hb : Below w.heap.size w w') : RdVs w' (· < w'.heap.size) v ps :=
  (h.keep (Keeps.below hb)).wide fun _ h => Nat.lt_of_lt_of_le h hb.size
theorem RdVs.at_ {w : World} {F : Nat → Prop} {A : Option Addr} {c : Nat} {ps : List VP} (h : RdVs w F (.slice A ps.length c) ps) {k : Nat} (hk : k < ps.length) :
    ∃ b off, A = some ⟨b, off, none⟩ ∧ F b ∧ (∀ j u, j < 9 → ps[k].1.enc[j]? = some u → w.cell? ⟨b, off + k * 9 + j, none⟩ = some u) ∧ VerIs w F ps[k].1 ps[k].2 := by
  obtain ⟨b, off, rfl, hF, hc⟩ := Rd.plain h.1 (by omega) (by omega)
  refine ⟨b, off, rfl, hF, fun j u hj hu => ?_, h.2 _ (List.getElem_mem hk)⟩
  rw [Nat.add_assoc]
  exact hc (k * 9 + j) u (by rw [flat_getC 9 ps (fun p => p.1.enc) (fun _ _ => rfl) k j hj _ (List.getElem?_eq_getElem hk)]; exact hu)

set_option maxRecDepth 1000000 in
set_option maxHeartbeats 1000000 in
theorem checkVersions_any (v : Value) (ps : List VP) (w : World) (hv : RdVs w (· < w.heap.size) v ps) :
    Calls Try.prog 29 #[v] w fun e w' => e = .returned (.int .i64 (chkFrom none (ps.map (·.2)))) ∧ Below w.heap.size w w' := by
  obtain ⟨A, c, rfl, hc1, hc2, hc3⟩ := hv.1.open_
  unfold maxLen at hc2
  have HVS := Lib.hid hv
  clear hv
  obtain ⟨res, hres⟩ : ∃ res, res = chkFrom none (ps.map (·.2)) := ⟨_, rfl⟩
  rw [← hres]
  have HRES := Lib.hid hres
  clear hres
  go_enter Try.func29, Try.ntmps29
  go_wp2_with fail
  go_loopw [7] (fun i wr => ∃ k : Nat, i = .int .i64 (k : Int) ∧ k ≤ ps.length ∧ Hid (chkFrom (prevV (ps.map (·.2)) k) ((ps.map (·.2)).drop k) = res) ∧ Below w.heap.size w wr) (fun i _ => ps.length - (intOf i).toNat)
  case atStart => exact ⟨0, rfl, Nat.zero_le _, Lib.hid HRES.out.symm, Below.refl _ _⟩
  case round =>
    obtain ⟨k, rfl, hk, HI, hB⟩ := hrel
    obtain ⟨wo, rfl⟩ : ∃ wo : World, wo = wr := ⟨_, rfl⟩
    have hsz := hB.size
    by_cases hlt : k < ps.length
    case neg =>
      have hke : k = ps.length := by omega
      have HZ : Hid (res = 0) := Lib.hid (by rw [← HI.out]; exact chk_end (by rw [List.length_map]; exact hke))
      subst hke
      go_wp2_with fail
      go_ret
      exact ⟨ret_int HZ.out.symm, hB⟩
    case pos =>
      obtain ⟨b, off, rfl, hF, hcl, hx⟩ := RdVs.at_ (HVS.out.below hB) hlt
      have hst := chk_step (xs := ps.map (·.2)) (k := k) (by rw [List.length_map]; exact hlt)
      rw [HI.out, List.getElem_map] at hst
      have hpv : 0 < k → ∃ q : VP, prevV (ps.map (·.2)) k = some q.2 ∧ VerIs wo (· < wo.heap.size) q.1 q.2 ∧ ∀ j u, j < 9 → q.1.enc[j]? = some u → wo.cell? ⟨b, off + (k - 1) * 9 + j, none⟩ = some u := fun h0 => by
        obtain ⟨b', off', e, _, hcl', hx'⟩ := RdVs.at_ (HVS.out.below hB) (k := k - 1) (by omega)
        injection e with e; injection e with e1 e2; subst e1; subst e2
        refine ⟨ps[k - 1], ?_, hx', hcl'⟩
        unfold prevV
        rw [if_neg (by omega), List.getElem?_map, List.getElem?_eq_getElem (by omega)]; rfl
      have HPV := Lib.hid hpv
      have HST := Lib.hid hst
      clear hst hpv
      generalize ps[k] = p at *
      obtain ⟨⟨x1, x2, xA, xn, xc, x3, x4, x5, x6, x7, x8⟩, x⟩ := p
      simp only at hcl hx HST
      have g0 : wo.cell? ⟨b, off + k * 9, none⟩ = some (.int .i64 x1) := hcl 0 _ (by decide) rfl
      have g1 : wo.cell? ⟨b, off + k * 9 + 1, none⟩ = some (.int .i64 x2) := hcl 1 _ (by decide) rfl
      have g2 : wo.cell? ⟨b, off + k * 9 + 2, none⟩ = some (.slice xA xn xc) := hcl 2 _ (by decide) rfl
      have g3 : wo.cell? ⟨b, off + k * 9 + 3, none⟩ = some (.int .i64 x3) := hcl 3 _ (by decide) rfl
      have g4 : wo.cell? ⟨b, off + k * 9 + 4, none⟩ = some (.int .i64 x4) := hcl 4 _ (by decide) rfl
      have g5 : wo.cell? ⟨b, off + k * 9 + 5, none⟩ = some (.int .i64 x5) := hcl 5 _ (by decide) rfl
      have g6 : wo.cell? ⟨b, off + k * 9 + 6, none⟩ = some (.int .i64 x6) := hcl 6 _ (by decide) rfl
      have g7 : wo.cell? ⟨b, off + k * 9 + 7, none⟩ = some (.int .i64 x7) := hcl 7 _ (by decide) rfl
      have g8 : wo.cell? ⟨b, off + k * 9 + 8, none⟩ = some (.int .i64 x8) := hcl 8 _ (by decide) rfl
      have HX := Lib.hid hx
      clear hcl hx
      go_wp2_with fail
      obtain ⟨W1, hW1⟩ : ∃ W1, W1 = wo.alloc (.cells #[.int .i64 x1, .int .i64 x2, .slice xA xn xc, .int .i64 x3, .int .i64 x4, .int .i64 x5, .int .i64 x6, .int .i64 x7, .int .i64 x8] 38) := ⟨_, rfl⟩
      have hWs : W1.heap.size = wo.heap.size + 1 := by subst hW1; simp
      have hbW : Below wo.heap.size wo W1 := by subst hW1; exact Below.of_alloc _
      have hWh : W1.heap[wo.heap.size]? = some (.cells #[.int .i64 x1, .int .i64 x2, .slice xA xn xc, .int .i64 x3, .int .i64 x4, .int .i64 x5, .int .i64 x6, .int .i64 x7, .int .i64 x8] 38 (0, 0)) := by subst hW1; exact heap_alloc_new wo _
      rw [← hW1]
      clear hW1
      have HX1 : Hid (VerIs W1 (· < W1.heap.size) (⟨x1, x2, xA, xn, xc, x3, x4, x5, x6, x7, x8⟩ : RV) x) := Lib.hid ((HX.out.keep (Keeps.below hbW)).wide (fun b' (h : b' < wo.heap.size) => by show b' < W1.heap.size; omega))
      have KV : Calls Try.prog 36 #[.agg #[.int .i64 x1, .int .i64 x2, .slice xA xn xc, .int .i64 x3, .int .i64 x4, .int .i64 x5, .int .i64 x6, .int .i64 x7, .int .i64 x8]] W1 (fun e w' => e = .returned (.bool (validVer x)) ∧ Below W1.heap.size W1 w') := validVersion_any (⟨x1, x2, xA, xn, xc, x3, x4, x5, x6, x7, x8⟩ : RV) x W1 HX1.out
      (with_reducible refine KV.mono ?_)
      rintro _ w2 ⟨rfl, hb2⟩
      by_cases hval : validVer x = true
      case neg =>
        have HVL := Lib.hid (show validVer x = false by simpa using hval)
        rw [HVL.out]
        go_wp2_with fail
        go_ret
        exact ⟨ret_int (by rw [HST.out, if_neg (by rw [HVL.out]; decide)]), hB.trans ((hbW.trans (hb2.mono (by omega))).mono hsz)⟩
      case pos =>
        have HVL := Lib.hid hval
        clear hval
        rw [HVL.out]
        have hB2 : Below w.heap.size w w2 := hB.trans ((hbW.trans (hb2.mono (by omega))).mono hsz)
        have hWh2 : w2.heap[wo.heap.size]? = some (.cells #[.int .i64 x1, .int .i64 x2, .slice xA xn xc, .int .i64 x3, .int .i64 x4, .int .i64 x5, .int .i64 x6, .int .i64 x7, .int .i64 x8] 38 (0, 0)) := (hb2.block _ (by omega)).trans hWh
        have hbo : Below wo.heap.size wo w2 := hbW.trans (hb2.mono (by omega))
        have hs2 : wo.heap.size + 1 ≤ w2.heap.size := by have := hb2.size; omega
        have LB : Hid (∀ w', Below w2.heap.size w2 w' → ∀ j u, [.int .i64 x1, .int .i64 x2, .slice xA xn xc, .int .i64 x3, .int .i64 x4, .int .i64 x5, .int .i64 x6, .int .i64 x7, .int .i64 x8][j]? = some u → w'.cell? ⟨wo.heap.size, j, none⟩ = some u) := Lib.hid (fun w' h j u hj => (cell_of_row _ wo.heap.size j _ _ _ ((h.block _ (by omega)).trans hWh2)).trans (by simpa using hj))
        clear hWh hWh2 HX1
        by_cases h0 : k = 0
        case pos =>
          subst h0
          have HN : Hid (res = chkFrom (prevV (ps.map (·.2)) (0 + 1)) ((ps.map (·.2)).drop (0 + 1))) := Lib.hid (by rw [HST.out, if_pos HVL.out]; exact if_pos rfl)
          go_wp2_with fail
          refine wp_region_noPanic ?_
          refine wp_region_held_drew (S := (fun w' => Below w2.heap.size w2 w')) (by kernel_rfl) ?_ (fun hHeld => ?_)
          · exact (Below.refl _ _).drew
          refine heldTake 0 (some 15) (v := ?_) rfl rfl (by kernel_rfl) (by kernel_rfl) (by kernel_rfl) (by rfl) hHeld (fun _ _ _ h => h) ?_ ?_
          rotate_left
          · intro w' hSw; (try dsimp only at hSw); go_simp <;> with_reducible rfl
          simp only [Act.put, List.setIfInBounds_toArray, List.set_cons_zero, List.set_cons_succ]
          refine heldTake 1 (some 16) (v := ?_) rfl rfl (by kernel_rfl) (by kernel_rfl) (by kernel_rfl) (by rfl) hHeld (fun _ _ _ h => h) ?_ ?_
          rotate_left
          · intro w' hSw; (try dsimp only at hSw); go_simp <;> with_reducible rfl
          simp only [Act.put, List.setIfInBounds_toArray, List.set_cons_zero, List.set_cons_succ]
          refine heldTake 2 (some 17) (v := ?_) rfl rfl (by kernel_rfl) (by kernel_rfl) (by kernel_rfl) (by rfl) hHeld (fun _ _ _ h => h) ?_ ?_
          rotate_left
          · intro w' hSw; (try dsimp only at hSw); go_simp <;> with_reducible rfl
          simp only [Act.put, List.setIfInBounds_toArray, List.set_cons_zero, List.set_cons_succ]
          refine heldSkip 3 (some 18) rfl rfl (by kernel_rfl) (by kernel_rfl) (by kernel_rfl) (by rfl) hHeld (fun _ _ _ h => h) ?_
          simp only [Act.put, List.setIfInBounds_toArray, List.set_cons_zero, List.set_cons_succ]
          refine heldSkip 4 (some 19) rfl rfl (by kernel_rfl) (by kernel_rfl) (by kernel_rfl) (by rfl) hHeld (fun _ _ _ h => h) ?_
          simp only [Act.put, List.setIfInBounds_toArray, List.set_cons_zero, List.set_cons_succ]
          refine heldSkip 5 (some 20) rfl rfl (by kernel_rfl) (by kernel_rfl) (by kernel_rfl) (by rfl) hHeld (fun _ _ _ h => h) ?_
          simp only [Act.put, List.setIfInBounds_toArray, List.set_cons_zero, List.set_cons_succ]
          refine heldSkip 6 (some 21) rfl rfl (by kernel_rfl) (by kernel_rfl) (by kernel_rfl) (by rfl) hHeld (fun _ _ _ h => h) ?_
          simp only [Act.put, List.setIfInBounds_toArray, List.set_cons_zero, List.set_cons_succ]
          refine heldSkip 7 (some 22) rfl rfl (by kernel_rfl) (by kernel_rfl) (by kernel_rfl) (by rfl) hHeld (fun _ _ _ h => h) ?_
          simp only [Act.put, List.setIfInBounds_toArray, List.set_cons_zero, List.set_cons_succ]
          refine heldSkip 8 (some 23) rfl rfl (by kernel_rfl) (by kernel_rfl) (by kernel_rfl) (by rfl) hHeld (fun _ _ _ h => h) ?_
          simp only [Act.put, List.setIfInBounds_toArray, List.set_cons_zero, List.set_cons_succ]
          refine heldSkip 9 (some 24) rfl rfl (by kernel_rfl) (by kernel_rfl) (by kernel_rfl) (by rfl) hHeld (fun _ _ _ h => h) ?_
          simp only [Act.put, List.setIfInBounds_toArray, List.set_cons_zero, List.set_cons_succ]
          refine heldSkip 10 (some 25) rfl rfl (by kernel_rfl) (by kernel_rfl) (by kernel_rfl) (by rfl) hHeld (fun _ _ _ h => h) ?_
          simp only [Act.put, List.setIfInBounds_toArray, List.set_cons_zero, List.set_cons_succ]
          refine heldTake 11 (some 26) (v := ?_) rfl rfl (by kernel_rfl) (by kernel_rfl) (by kernel_rfl) (by rfl) hHeld (fun _ _ _ h => h) ?_ ?_
          rotate_left
          · intro w' hSw; (try dsimp only at hSw); go_simp <;> with_reducible rfl
          simp only [Act.put, List.setIfInBounds_toArray, List.set_cons_zero, List.set_cons_succ]
          refine wpAnyH_done (by kernel_rfl) ?_ _
          refine NoPanic.normal ?_
          clear hHeld
          go_wp2_with fail
          go_roundw
          case rel => exact ⟨1, rfl, by omega, Lib.hid HN.out.symm, hB2.drew⟩
          case measure => simp [intOf]; omega
        case neg =>
          obtain ⟨q, hq1, hq2, hq3⟩ := HPV.out (by omega)
          obtain ⟨i, rfl⟩ : ∃ i, k = i + 1 := ⟨k - 1, by omega⟩
          rw [Nat.add_sub_cancel] at hq3
          obtain ⟨⟨y1, y2, yA, yn, yc, y3, y4, y5, y6, y7, y8⟩, y⟩ := q
          simp only at hq1 hq2 hq3
          have HST2 := HST.out
          rw [if_pos HVL.out, hq1] at HST2
          have eo : okPrev (some y) x = ltV y x := rfl
          rw [eo] at HST2
          have hlv := hq2.lt HX.out
          obtain ⟨lb, hlb⟩ : ∃ lb, lb = ltV y x := ⟨_, rfl⟩
          rw [← hlb] at hlv HST2
          have HS2 := Lib.hid HST2
          clear HST2 hq1 hlb HPV
          have PC : Hid (∀ w', Below w2.heap.size w2 w' → ∀ j u, j < 9 → [.int .i64 y1, .int .i64 y2, .slice yA yn yc, .int .i64 y3, .int .i64 y4, .int .i64 y5, .int .i64 y6, .int .i64 y7, .int .i64 y8][j]? = some u → w'.cell? ⟨b, off + i * 9 + j, none⟩ = some u) := Lib.hid (fun w' h j u hj hu => (World.cell?_of_block ((h.block b (by omega)).trans (hbo.block b (by omega)))).trans (hq3 j u hj hu))
          clear hq3 hq2
          have ew : IntKind.i64.wrap (((i + 1 : Nat) : Int) - 1) = ((i : Nat) : Int) := by rw [IntKind.wrap_i64]; omega
          have ew2 : IntKind.i64.wrap (((i + 1 : Nat) : Int) + 1) = ((i + 1 + 1 : Nat) : Int) := by rw [IntKind.wrap_i64]; omega
          have hil : (i : Int) < (ps.length : Int) := by omega
          have hip : (0 : Int) < ((i + 1 : Nat) : Int) := by omega
          have KC : ∀ W, Calls Try.prog 37 #[.agg #[.int .i64 y1, .int .i64 y2, .slice yA yn yc, .int .i64 y3, .int .i64 y4, .int .i64 y5, .int .i64 y6, .int .i64 y7, .int .i64 y8], .agg #[.int .i64 x1, .int .i64 x2, .slice xA xn xc, .int .i64 x3, .int .i64 x4, .int .i64 x5, .int .i64 x6, .int .i64 x7, .int .i64 x8]] W fun e w' => e = .returned (.bool lb) ∧ Below W.heap.size W w' := fun W => by rw [← hlv]; exact follows_any (⟨y1, y2, yA, yn, yc, y3, y4, y5, y6, y7, y8⟩ : RV) (⟨x1, x2, xA, xn, xc, x3, x4, x5, x6, x7, x8⟩ : RV) W
          have EW := Lib.hid ew2
          clear ew2 hlv
          obtain ⟨z, hz⟩ : ∃ z, z = i + 1 := ⟨_, rfl⟩
          have HZ := Lib.hid hz
          rw [← hz] at ew hip hlt HS2 HI ⊢
          have EW2 : Hid (IntKind.i64.wrap ((z : Int) + 1) = ((z + 1 : Nat) : Int)) := Lib.hid (by rw [HZ.out]; exact EW.out)
          have hz0 : 0 < z := by omega
          have HLT := Lib.hid (And.intro hlt (show i + 1 ≤ ps.length from hk))
          clear hz
          go_wp2_with fail
          refine wp_region_noPanic ?_
          refine wp_region_held_drew (S := (fun w' => Below w2.heap.size w2 w')) (by kernel_rfl) ?_ (fun hHeld => ?_)
          · exact (Below.refl _ _).drew
          refine heldTake 0 (some 15) (v := ?_) rfl rfl (by kernel_rfl) (by kernel_rfl) (by kernel_rfl) (by rfl) hHeld (fun _ _ _ h => h) ?_ ?_
          rotate_left
          · intro w' hSw; (try dsimp only at hSw); go_simp <;> with_reducible rfl
          simp only [Act.put, List.setIfInBounds_toArray, List.set_cons_zero, List.set_cons_succ]
          refine heldTake 1 (some 16) (v := ?_) rfl rfl (by kernel_rfl) (by kernel_rfl) (by kernel_rfl) (by rfl) hHeld (fun _ _ _ h => h) ?_ ?_
          rotate_left
          · intro w' hSw; (try dsimp only at hSw); go_simp <;> with_reducible rfl
          simp only [Act.put, List.setIfInBounds_toArray, List.set_cons_zero, List.set_cons_succ]
          refine heldTake 2 (some 17) (v := ?_) rfl rfl (by kernel_rfl) (by kernel_rfl) (by kernel_rfl) (by rfl) hHeld (fun _ _ _ h => h) ?_ ?_
          rotate_left
          · intro w' hSw; (try dsimp only at hSw); go_simp <;> with_reducible rfl
          simp only [Act.put, List.setIfInBounds_toArray, List.set_cons_zero, List.set_cons_succ]
          refine heldTake 3 (some 18) (v := ?_) rfl rfl (by kernel_rfl) (by kernel_rfl) (by kernel_rfl) (by rfl) hHeld (fun _ _ _ h => h) ?_ ?_
          rotate_left
          · intro w' hSw; (try dsimp only at hSw); go_simp <;> with_reducible rfl
          simp only [Act.put, List.setIfInBounds_toArray, List.set_cons_zero, List.set_cons_succ]
          refine heldTake 4 (some 19) (v := ?_) rfl rfl (by kernel_rfl) (by kernel_rfl) (by kernel_rfl) (by rfl) hHeld (fun _ _ _ h => h) ?_ ?_
          rotate_left
          · intro w' hSw; (try dsimp only at hSw); go_simp <;> with_reducible rfl
          simp only [Act.put, List.setIfInBounds_toArray, List.set_cons_zero, List.set_cons_succ]
          refine heldTake 5 (some 20) (v := ?_) rfl rfl (by kernel_rfl) (by kernel_rfl) (by kernel_rfl) (by rfl) hHeld (fun _ _ _ h => h) ?_ ?_
          rotate_left
          · intro w' hSw; (try dsimp only at hSw); go_simp <;> with_reducible rfl
          simp only [Act.put, List.setIfInBounds_toArray, List.set_cons_zero, List.set_cons_succ]
          refine heldTake 6 (some 21) (v := ?_) rfl rfl (by kernel_rfl) (by kernel_rfl) (by kernel_rfl) (by rfl) hHeld (fun _ _ _ h => h) ?_ ?_
          rotate_left
          · intro w' hSw; (try dsimp only at hSw); go_simp <;> with_reducible rfl
          simp only [Act.put, List.setIfInBounds_toArray, List.set_cons_zero, List.set_cons_succ]
          refine heldTake 7 (some 22) (v := ?_) rfl rfl (by kernel_rfl) (by kernel_rfl) (by kernel_rfl) (by rfl) hHeld (fun _ _ _ h => h) ?_ ?_
          rotate_left
          · intro w' hSw; (try dsimp only at hSw); have c0 : w'.cell? ⟨b, off + i * 9, none⟩ = some (.int .i64 y1) := PC.out w' hSw 0 _ (by decide) rfl; have c1 : w'.cell? ⟨b, off + i * 9 + 1, none⟩ = some (.int .i64 y2) := PC.out w' hSw 1 _ (by decide) rfl; have c2 : w'.cell? ⟨b, off + i * 9 + 2, none⟩ = some (.slice yA yn yc) := PC.out w' hSw 2 _ (by decide) rfl; have c3 : w'.cell? ⟨b, off + i * 9 + 3, none⟩ = some (.int .i64 y3) := PC.out w' hSw 3 _ (by decide) rfl; have c4 : w'.cell? ⟨b, off + i * 9 + 4, none⟩ = some (.int .i64 y4) := PC.out w' hSw 4 _ (by decide) rfl; have c5 : w'.cell? ⟨b, off + i * 9 + 5, none⟩ = some (.int .i64 y5) := PC.out w' hSw 5 _ (by decide) rfl; have c6 : w'.cell? ⟨b, off + i * 9 + 6, none⟩ = some (.int .i64 y6) := PC.out w' hSw 6 _ (by decide) rfl; have c7 : w'.cell? ⟨b, off + i * 9 + 7, none⟩ = some (.int .i64 y7) := PC.out w' hSw 7 _ (by decide) rfl; have c8 : w'.cell? ⟨b, off + i * 9 + 8, none⟩ = some (.int .i64 y8) := PC.out w' hSw 8 _ (by decide) rfl; go_simp <;> with_reducible rfl
          simp only [Act.put, List.setIfInBounds_toArray, List.set_cons_zero, List.set_cons_succ]
          refine heldTake 8 (some 23) (v := ?_) rfl rfl (by kernel_rfl) (by kernel_rfl) (by kernel_rfl) (by rfl) hHeld (fun _ _ _ h => h) ?_ ?_
          rotate_left
          · intro w' hSw; (try dsimp only at hSw); have c0 : w'.cell? ⟨wo.heap.size, 0, none⟩ = some (.int .i64 x1) := LB.out w' hSw 0 _ rfl; have c1 : w'.cell? ⟨wo.heap.size, 1, none⟩ = some (.int .i64 x2) := LB.out w' hSw 1 _ rfl; have c2 : w'.cell? ⟨wo.heap.size, 2, none⟩ = some (.slice xA xn xc) := LB.out w' hSw 2 _ rfl; have c3 : w'.cell? ⟨wo.heap.size, 3, none⟩ = some (.int .i64 x3) := LB.out w' hSw 3 _ rfl; have c4 : w'.cell? ⟨wo.heap.size, 4, none⟩ = some (.int .i64 x4) := LB.out w' hSw 4 _ rfl; have c5 : w'.cell? ⟨wo.heap.size, 5, none⟩ = some (.int .i64 x5) := LB.out w' hSw 5 _ rfl; have c6 : w'.cell? ⟨wo.heap.size, 6, none⟩ = some (.int .i64 x6) := LB.out w' hSw 6 _ rfl; have c7 : w'.cell? ⟨wo.heap.size, 7, none⟩ = some (.int .i64 x7) := LB.out w' hSw 7 _ rfl; have c8 : w'.cell? ⟨wo.heap.size, 8, none⟩ = some (.int .i64 x8) := LB.out w' hSw 8 _ rfl; go_simp <;> with_reducible rfl
          simp only [Act.put, List.setIfInBounds_toArray, List.set_cons_zero, List.set_cons_succ]
          refine heldCall 9 (some 24) (f := ?_) (args := ?_) rfl rfl (by kernel_rfl) (by rfl) ?_ ?_
          rotate_left 2
          · go_simp <;> first | (constructor <;> with_reducible rfl) | with_reducible rfl
          (with_reducible refine (KC _).mono ?_)
          rintro _ w3 ⟨rfl, hb3'⟩
          have hb3 : Below w2.heap.size w2 w3 := (Below.undrew hb3')
          refine ⟨_, rfl, keepAnd ?_ (fun hNew => ?_)⟩
          · exact hb3
          clear hHeld
          have hHeld := hNew
          clear hNew
          simp only [Act.put, List.setIfInBounds_toArray, List.set_cons_zero, List.set_cons_succ]
          refine heldTake 10 (some 25) (v := ?_) rfl rfl (by kernel_rfl) (by kernel_rfl) (by kernel_rfl) (by rfl) hHeld (fun _ _ _ h => h) ?_ ?_
          rotate_left
          · intro w' hSw; (try dsimp only at hSw); go_simp <;> with_reducible rfl
          simp only [Act.put, List.setIfInBounds_toArray, List.set_cons_zero, List.set_cons_succ]
          refine heldTake 11 (some 26) (v := ?_) rfl rfl (by kernel_rfl) (by kernel_rfl) (by kernel_rfl) (by rfl) hHeld (fun _ _ _ h => h) ?_ ?_
          rotate_left
          · intro w' hSw; (try dsimp only at hSw); go_simp <;> with_reducible rfl
          simp only [Act.put, List.setIfInBounds_toArray, List.set_cons_zero, List.set_cons_succ]
          refine wpAnyH_done (by kernel_rfl) ?_ _
          refine NoPanic.normal ?_
          clear hHeld
          have hB3 : Below w.heap.size w w3 := hB2.trans (hb3.mono (by have := hB2.size; omega))
          cases lb
          case false =>
            have HN : Hid (res = 9) := Lib.hid (by rw [HS2.out]; exact if_neg (by decide))
            go_wp2_with fail
            go_ret
            exact ⟨ret_int HN.out.symm, hB3⟩
          case true =>
            have HN : Hid (res = chkFrom (prevV (ps.map (·.2)) (z + 1)) ((ps.map (·.2)).drop (z + 1))) := Lib.hid (by rw [HS2.out]; exact if_pos rfl)
            go_wp2_with fail
            go_roundw
            case rel => exact ⟨z + 1, by go_num, by have := HLT.out.1; omega, Lib.hid HN.out.symm, hB3⟩
            case measure => have q1 := HLT.out.1; have q2 := HZ.out; simp [intOf]; omega
end Go.Proofs.Ytkhmjlahlcighaa
