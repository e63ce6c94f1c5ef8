/-
  The bytes of versions: put, EncodeVersions; compaction.check.
-/
import Derived.Test.YtkhmjlahlcighaaVerE
namespace Go.Proofs.Ytkhmjlahlcighaa
open Go.RowKit Go.Lib Go.IntWalk Go.Sort Go.Shelf

def encVers (xs : List Ver) : List UInt8 := xs.flatMap encVer
def encVsB (xs : List Ver) : List UInt8 := encI xs.length ++ encVers xs
def encVsE (xs : List Ver) : Int := if 4096 < xs.length then 5 else if chkFrom none xs ≠ 0 then chkFrom none xs else if 1048576 < (encVsB xs).length then 5 else 0
theorem encVers_snoc {xs : List Ver} {k : Nat} (hk : k < xs.length) : encVers (xs.take (k + 1)) = encVers (xs.take k) ++ encVer xs[k] := by
  unfold encVers
  rw [List.take_succ_eq_append_getElem hk, List.flatMap_append, List.flatMap_singleton]
theorem encVers_le (xs : List Ver) (h : ∀ x ∈ xs, (encVer x).length ≤ 2600) (k : Nat) : (encVers (xs.take k)).length ≤ 2600 * k := by
  induction k with
  | zero => simp [encVers]
  | succ k ih =>
    by_cases hk : k < xs.length
    · rw [encVers_snoc hk, List.length_append]
      have := h xs[k] (List.getElem_mem hk)
      omega
    · rw [List.take_of_length_le (by omega)] at ih ⊢; omega

set_option maxRecDepth 1000000 in
set_option maxHeartbeats 1000000 in
theorem put_any' (base B : Nat) (l : List UInt8) (v : Value) (ps : List VP) (w : World) (hbB : base ≤ B) (h : BufAt w base B l) (hv : RdVs w (· < base) v ps) (hval : ∀ p ∈ ps, validVer p.2 = true) (hn : ps.length ≤ 4096) (hl : l.length ≤ 1000000) :
    Calls Try.prog 30 #[.pointer (some ⟨B, 0, none⟩), v, .func (.func 31) #[] #[]] w fun e w' => e = .returned (.tuple #[]) ∧ BufAt w' base B (l ++ encVsB (ps.map (·.2))) ∧ Below base w w' := by
  obtain ⟨A, c, rfl, hc1, hc2, hc3⟩ := hv.1.open_
  unfold maxLen at hc2
  have hBl := h.lt
  have HVS := Lib.hid hv
  have HVL := Lib.hid hval
  clear hv hval
  have KI := bufInt_any base B l ps.length w hbB h (by omega) (by omega) (by omega)
  have HLE := Lib.hid (encVers_le (ps.map (·.2)) (fun x hx => by
    obtain ⟨p, hp, rfl⟩ := List.mem_map.1 hx
    exact (encVer_le (HVL.out p hp) (HVS.out.2 p hp).ok).1))
  have e0 := encI_length ps.length
  have HE0 := Lib.hid e0
  clear e0
  go_enter Try.func30, Try.ntmps30
  go_wp2_with fail
  (with_reducible refine KI.mono ?_)
  rintro _ w1 ⟨rfl, hA1, hb1, hk1⟩
  have hs1 : w.heap.size ≤ w1.heap.size := hk1.1
  clear hk1 KI
  go_wp2_with fail
  go_loopw [16] (fun i wr => ∃ k : Nat, i = .int .i64 (k : Int) ∧ k ≤ ps.length ∧ Hid (BufAt wr base B (l ++ encI ps.length ++ encVers ((ps.map (·.2)).take k))) ∧ Below base w wr) (fun i _ => ps.length - (intOf i).toNat)
  case atStart => exact ⟨0, rfl, Nat.zero_le _, Lib.hid (by simpa [encVers] using hA1), hb1⟩
  case round =>
    obtain ⟨k, rfl, hk, HI, hB⟩ := hrel
    obtain ⟨wo, rfl⟩ : ∃ wo : World, wo = wr := ⟨_, rfl⟩
    have hBo := HI.out.lt
    by_cases hlt : k < ps.length
    case neg =>
      have hke : k = ps.length := by omega
      go_wp2_with fail
      go_end0
      refine ⟨rfl, ?_, hB⟩
      have hA := HI.out
      rw [hke, List.take_of_length_le (by simp)] at hA
      unfold encVsB
      rw [List.length_map, ← List.append_assoc]
      exact hA
    case pos =>
      obtain ⟨b, off, rfl, hF, hcl, hx⟩ := RdVs.at_ (HVS.out.keep (Keeps.below hB)) hlt
      have hsn := encVers_snoc (xs := ps.map (·.2)) (k := k) (by rw [List.length_map]; exact hlt)
      rw [List.getElem_map] at hsn
      have hvl := HVL.out ps[k] (List.getElem_mem hlt)
      have HSN := Lib.hid hsn
      have hle := HLE.out k
      clear hsn
      generalize ps[k] = p at *
      obtain ⟨⟨x1, x2, xA, xn, xc, x3, x4, x5, x6, x7, x8⟩, x⟩ := p
      simp only at hcl hx HSN hvl
      have g0 : wo.cell? ⟨b, off + k * 9, none⟩ = some (.int .i64 x1) := hcl 0 _ (by decide) rfl
      have g1 : wo.cell? ⟨b, off + k * 9 + 1, none⟩ = some (.int .i64 x2) := hcl 1 _ (by decide) rfl
      have g2 : wo.cell? ⟨b, off + k * 9 + 2, none⟩ = some (.slice xA xn xc) := hcl 2 _ (by decide) rfl
      have g3 : wo.cell? ⟨b, off + k * 9 + 3, none⟩ = some (.int .i64 x3) := hcl 3 _ (by decide) rfl
      have g4 : wo.cell? ⟨b, off + k * 9 + 4, none⟩ = some (.int .i64 x4) := hcl 4 _ (by decide) rfl
      have g5 : wo.cell? ⟨b, off + k * 9 + 5, none⟩ = some (.int .i64 x5) := hcl 5 _ (by decide) rfl
      have g6 : wo.cell? ⟨b, off + k * 9 + 6, none⟩ = some (.int .i64 x6) := hcl 6 _ (by decide) rfl
      have g7 : wo.cell? ⟨b, off + k * 9 + 7, none⟩ = some (.int .i64 x7) := hcl 7 _ (by decide) rfl
      have g8 : wo.cell? ⟨b, off + k * 9 + 8, none⟩ = some (.int .i64 x8) := hcl 8 _ (by decide) rfl
      have HX := Lib.hid hx
      have HL2 : Hid ((l ++ encI ps.length ++ encVers ((ps.map (·.2)).take k)).length + 12000 ≤ 140737488300000) := Lib.hid (by
        simp only [List.length_append]
        have := HE0.out
        omega)
      have HW := Lib.hid hvl
      clear hcl hx hle hvl
      go_wp2_with fail
      obtain ⟨W1, hW1⟩ : ∃ W1, W1 = wo.alloc (.cells #[.int .i64 x1, .int .i64 x2, .slice xA xn xc, .int .i64 x3, .int .i64 x4, .int .i64 x5, .int .i64 x6, .int .i64 x7, .int .i64 x8] 38) := ⟨_, rfl⟩
      have hbW : Below wo.heap.size wo W1 := by subst hW1; exact Below.of_alloc _
      rw [← hW1]
      clear hW1
      have KV : Calls Try.prog 31 #[.pointer (some ⟨B, 0, none⟩), .agg #[.int .i64 x1, .int .i64 x2, .slice xA xn xc, .int .i64 x3, .int .i64 x4, .int .i64 x5, .int .i64 x6, .int .i64 x7, .int .i64 x8]] W1 (BufOut base B (l ++ encI ps.length ++ encVers ((ps.map (·.2)).take k) ++ encVer x) W1) := version_any base B _ (⟨x1, x2, xA, xn, xc, x3, x4, x5, x6, x7, x8⟩ : RV) x W1 hbB (HI.out.below hbW) (HX.out.keep ((Keeps.below hbW).mono (fun b' (h : b' < base) => by omega))) HW.out HL2.out
      (with_reducible refine KV.mono ?_)
      rintro _ w2 ⟨rfl, hA2, hb2, hk2⟩
      have hB2 : Below base w w2 := hB.trans ((hbW.mono (by omega)).trans hb2)
      have hA2' : Hid (BufAt w2 base B (l ++ encI ps.length ++ encVers ((ps.map (·.2)).take (k + 1)))) := Lib.hid (by rw [HSN.out, ← List.append_assoc]; exact hA2)
      clear hk2 KV hA2
      go_wp2_with fail
      go_roundw
      case rel => exact ⟨k + 1, by go_num, by omega, hA2', hB2⟩
      case measure => simp [intOf]; omega

def EncVOut (ps : List VP) (w0 : World) (e : Ending) (w : World) : Prop :=
  ∃ u, e = .returned (.tuple #[u, .int .i64 (encVsE (ps.map (·.2)))]) ∧ Below w0.heap.size w0 w ∧ (encVsE (ps.map (·.2)) = 0 → OwnB w w0.heap.size u (encVsB (ps.map (·.2)))) ∧ (encVsE (ps.map (·.2)) ≠ 0 → u = .slice none 0 0)
theorem EncVOut.bad {ps : List VP} {w0 w : World} {e : Ending} {r : Int} (h : encVsE (ps.map (·.2)) = r) (h0 : r ≠ 0) (he : e = .returned (.tuple #[.slice none 0 0, .int .i64 r])) (hb : Below w0.heap.size w0 w) : EncVOut ps w0 e w :=
  ⟨_, by rw [h]; exact he, hb, fun h1 => absurd (h.symm.trans h1) h0, fun _ => rfl⟩
set_option maxRecDepth 1000000 in
set_option maxHeartbeats 1000000 in
theorem encodeVersions_any (v : Value) (ps : List VP) (w : World) (hv : RdVs w (· < w.heap.size) v ps) :
    Calls Try.prog 22 #[v] w (EncVOut ps w) := by
  obtain ⟨A, c, rfl, hc1, hc2, hc3⟩ := hv.1.open_
  unfold maxLen at hc2
  have KC := checkVersions_any _ ps w hv
  have HVS := Lib.hid hv
  clear hv
  by_cases hn : 4096 < ps.length
  case pos =>
    have HE : Hid (encVsE (ps.map (·.2)) = 5) := Lib.hid (by unfold encVsE; rw [if_pos (by simpa using hn)])
    have hz : (4096 : Int) < (ps.length : Int) := by omega
    go_enter Try.func22, Try.ntmps22
    go_wp2_with fail
    go_ret2
    exact EncVOut.bad HE.out (by decide) rfl (Below.refl _ _)
  case neg =>
    have hz : ¬ (4096 : Int) < (ps.length : Int) := by omega
    obtain ⟨ce, hce⟩ : ∃ ce, ce = chkFrom none (ps.map (·.2)) := ⟨_, rfl⟩
    rw [← hce] at KC
    have HCE := Lib.hid hce
    have HN := Lib.hid hn
    clear hce hn
    by_cases h0 : ce = 0
    case neg =>
      have HE : Hid (encVsE (ps.map (·.2)) = ce) := Lib.hid (by unfold encVsE; rw [if_neg (by simpa using HN.out), ← HCE.out, if_pos h0])
      have H0 := Lib.hid h0
      go_enter Try.func22, Try.ntmps22
      go_wp2_with fail
      (with_reducible refine KC.mono ?_)
      rintro _ w1 ⟨rfl, hb1⟩
      go_wp2_with fail
      all_goals first | (exfalso; exact H0.out (by assumption)) | skip
      go_ret2
      exact EncVOut.bad HE.out H0.out rfl hb1
    case pos =>
      subst h0
      have hval : ∀ p ∈ ps, validVer p.2 = true := fun p hp => chkFrom_valid HCE.out.symm _ (List.mem_map.2 ⟨p, hp, rfl⟩)
      have HVL := Lib.hid hval
      clear hval
      go_enter Try.func22, Try.ntmps22
      go_wp2_with fail
      (with_reducible refine KC.mono ?_)
      rintro _ w1 ⟨rfl, hb1⟩
      go_wp2_with fail
      obtain ⟨W1, hW1⟩ : ∃ W1, W1 = w1.alloc (.cells #[.slice none 0 0] 63) := ⟨_, rfl⟩
      have hbW : Below w1.heap.size w1 W1 := by subst hW1; exact Below.of_alloc _
      have hWs : W1.heap.size = w1.heap.size + 1 := by subst hW1; simp
      have hA : BufAt W1 w1.heap.size w1.heap.size [] := ⟨_, by subst hW1; exact heap_alloc_new w1 _, World.ownsRow_nil _ _ _ _⟩
      have hs1 := hb1.size
      rw [← hW1]
      clear hW1
      have hbw : Below w.heap.size w W1 := hb1.trans (hbW.mono hs1)
      have KP := put_any' w1.heap.size w1.heap.size [] _ ps W1 (Nat.le_refl _) hA ((HVS.out.keep (Keeps.below hbw)).wide (fun b (h : b < w.heap.size) => by show b < w1.heap.size; omega)) HVL.out (by have := HN.out; omega) (by simp)
      (with_reducible refine KP.mono ?_)
      rintro _ w2 ⟨rfl, hA2, hb2⟩
      rw [List.nil_append] at hA2
      have hB2 : Below w.heap.size w w2 := hbw.trans (hb2.mono hs1)
      obtain ⟨vb, hvb, hO⟩ := hA2
      have hO' : OwnB w2 w.heap.size vb (encVsB (ps.map (·.2))) := own_baseC hO hs1
      have kc : w2.cell? ⟨w1.heap.size, 0, none⟩ = some vb := cell_of_row w2 w1.heap.size 0 _ _ _ hvb
      obtain ⟨Ab, cb, rfl, j1, j2, j3⟩ := Rd.open_ hO'.rd
      have HO := Lib.hid hO'
      have HEB : Hid (encVsE (ps.map (·.2)) = if 1048576 < (encVsB (ps.map (·.2))).length then 5 else 0) := Lib.hid (by unfold encVsE; rw [if_neg (by simpa using HN.out), ← HCE.out, if_neg (by simp)])
      clear hvb hO hO' j3 j2 KP hA
      generalize hm : (encVsB (ps.map (·.2))).length = m at *
      have HM := Lib.hid hm
      clear hm
      by_cases hbig : 1048576 < m
      case pos =>
        have HE : Hid (encVsE (ps.map (·.2)) = 5) := Lib.hid (by rw [HEB.out, if_pos hbig])
        have hbz : (1048576 : Int) < (m : Int) := by omega
        go_wp2_with fail
        go_ret2
        exact EncVOut.bad HE.out (by decide) rfl hB2
      case neg =>
        have HE : Hid (encVsE (ps.map (·.2)) = 0) := Lib.hid (by rw [HEB.out, if_neg hbig])
        have hbz : ¬ (1048576 : Int) < (m : Int) := by omega
        go_wp2_with fail
        go_ret2
        refine ⟨.slice Ab m cb, ?_, hB2, fun _ => HO.out, fun h => absurd HE.out h⟩
        show Ending.returned (.tuple #[.slice Ab m cb, .int .i64 0]) = _
        rw [HE.out]
theorem encVsE_one (x : Ver) (hok : ∀ v ∈ x.row, goV v) : encVsE [x] = if validVer x = true then 0 else 8 := by
  have hc : chkFrom none [x] = if validVer x = true then 0 else 8 := by rw [chkFrom_cons]; rfl
  unfold encVsE
  rw [if_neg (by simp), hc]
  by_cases h : validVer x = true
  · rw [if_pos h, if_neg (by simp)]
    have := (encVer_le h hok).1
    have e := encI_length ([x].length : Nat)
    rw [if_neg]
    unfold encVsB encVers
    simp only [List.flatMap_singleton, List.length_append]
    omega
  · rw [if_neg h, if_pos (by decide)]

set_option maxRecDepth 1000000 in
set_option maxHeartbeats 1000000 in
theorem check_any (v : Value) (ps : List VP) (w : World) (hv : RdVs w (· < w.heap.size) v ps) :
    Calls Try.prog 14 #[v] w fun e w' => e = .returned (.int .i64 (chkFrom none (ps.map (·.2)))) ∧ Below w.heap.size w w' := by
  obtain ⟨A, c, rfl, hc1, hc2, hc3⟩ := hv.1.open_
  unfold maxLen at hc2
  have HVS := Lib.hid hv
  clear hv
  obtain ⟨res, hres⟩ : ∃ res, res = chkFrom none (ps.map (·.2)) := ⟨_, rfl⟩
  rw [← hres]
  have HRES := Lib.hid hres
  clear hres
  go_enter Try.func14, Try.ntmps14
  go_wp2_with fail
  go_loopw [9] (fun i wr => ∃ k : Nat, i = .int .i64 (k : Int) ∧ k ≤ ps.length ∧ Hid (chkFrom (prevV (ps.map (·.2)) k) ((ps.map (·.2)).drop k) = res) ∧ Below w.heap.size w wr) (fun i _ => ps.length - (intOf i).toNat)
  case atStart => exact ⟨0, rfl, Nat.zero_le _, Lib.hid HRES.out.symm, Below.refl _ _⟩
  case round =>
    obtain ⟨k, rfl, hk, HI, hB⟩ := hrel
    obtain ⟨wo, rfl⟩ : ∃ wo : World, wo = wr := ⟨_, rfl⟩
    have hsz := hB.size
    by_cases hlt : k < ps.length
    case neg =>
      have hke : k = ps.length := by omega
      have HZ : Hid (res = 0) := Lib.hid (by rw [← HI.out]; exact chk_end (by rw [List.length_map]; exact hke))
      subst hke
      go_wp2_with fail
      go_ret
      exact ⟨ret_int HZ.out.symm, hB⟩
    case pos =>
      obtain ⟨b, off, rfl, hF, hcl, hx⟩ := RdVs.at_ (HVS.out.below hB) hlt
      have hst := chk_step (xs := ps.map (·.2)) (k := k) (by rw [List.length_map]; exact hlt)
      rw [HI.out, List.getElem_map] at hst
      have hpv : 0 < k → ∃ q : VP, prevV (ps.map (·.2)) k = some q.2 ∧ VerIs wo (· < wo.heap.size) q.1 q.2 ∧ ∀ j u, j < 9 → q.1.enc[j]? = some u → wo.cell? ⟨b, off + (k - 1) * 9 + j, none⟩ = some u := fun h0 => by
        obtain ⟨b', off', e, _, hcl', hx'⟩ := RdVs.at_ (HVS.out.below hB) (k := k - 1) (by omega)
        injection e with e; injection e with e1 e2; subst e1; subst e2
        refine ⟨ps[k - 1], ?_, hx', hcl'⟩
        unfold prevV
        rw [if_neg (by omega), List.getElem?_map, List.getElem?_eq_getElem (by omega)]; rfl
      have HPV := Lib.hid hpv
      have HST := Lib.hid hst
      clear hst hpv
      generalize ps[k] = p at *
      obtain ⟨⟨x1, x2, xA, xn, xc, x3, x4, x5, x6, x7, x8⟩, x⟩ := p
      simp only at hcl hx HST
      have g0 : wo.cell? ⟨b, off + k * 9, none⟩ = some (.int .i64 x1) := hcl 0 _ (by decide) rfl
      have g1 : wo.cell? ⟨b, off + k * 9 + 1, none⟩ = some (.int .i64 x2) := hcl 1 _ (by decide) rfl
      have g2 : wo.cell? ⟨b, off + k * 9 + 2, none⟩ = some (.slice xA xn xc) := hcl 2 _ (by decide) rfl
      have g3 : wo.cell? ⟨b, off + k * 9 + 3, none⟩ = some (.int .i64 x3) := hcl 3 _ (by decide) rfl
      have g4 : wo.cell? ⟨b, off + k * 9 + 4, none⟩ = some (.int .i64 x4) := hcl 4 _ (by decide) rfl
      have g5 : wo.cell? ⟨b, off + k * 9 + 5, none⟩ = some (.int .i64 x5) := hcl 5 _ (by decide) rfl
      have g6 : wo.cell? ⟨b, off + k * 9 + 6, none⟩ = some (.int .i64 x6) := hcl 6 _ (by decide) rfl
      have g7 : wo.cell? ⟨b, off + k * 9 + 7, none⟩ = some (.int .i64 x7) := hcl 7 _ (by decide) rfl
      have g8 : wo.cell? ⟨b, off + k * 9 + 8, none⟩ = some (.int .i64 x8) := hcl 8 _ (by decide) rfl
      have HX := Lib.hid hx
      clear hcl hx
      go_wp2_with fail
      obtain ⟨W1, hW1⟩ : ∃ W1, W1 = wo.alloc (.cells #[.int .i64 x1, .int .i64 x2, .slice xA xn xc, .int .i64 x3, .int .i64 x4, .int .i64 x5, .int .i64 x6, .int .i64 x7, .int .i64 x8] 38) := ⟨_, rfl⟩
      have hWs : W1.heap.size = wo.heap.size + 1 := by subst hW1; simp
      have hbW : Below wo.heap.size wo W1 := by subst hW1; exact Below.of_alloc _
      have hWh : W1.heap[wo.heap.size]? = some (.cells #[.int .i64 x1, .int .i64 x2, .slice xA xn xc, .int .i64 x3, .int .i64 x4, .int .i64 x5, .int .i64 x6, .int .i64 x7, .int .i64 x8] 38 (0, 0)) := by subst hW1; exact heap_alloc_new wo _
      rw [← hW1]
      clear hW1
      have HX1 : Hid (VerIs W1 (· < W1.heap.size) (⟨x1, x2, xA, xn, xc, x3, x4, x5, x6, x7, x8⟩ : RV) x) := Lib.hid ((HX.out.keep (Keeps.below hbW)).wide (fun b' (h : b' < wo.heap.size) => by show b' < W1.heap.size; omega))
      have hone : RdVs (W1.alloc (.cells #[.int .i64 x1, .int .i64 x2, .slice xA xn xc, .int .i64 x3, .int .i64 x4, .int .i64 x5, .int .i64 x6, .int .i64 x7, .int .i64 x8] 38)) (· < (W1.alloc (.cells #[.int .i64 x1, .int .i64 x2, .slice xA xn xc, .int .i64 x3, .int .i64 x4, .int .i64 x5, .int .i64 x6, .int .i64 x7, .int .i64 x8] 38)).heap.size) (.slice (some ⟨W1.heap.size, 0, none⟩) 1 1) [((⟨x1, x2, xA, xn, xc, x3, x4, x5, x6, x7, x8⟩ : RV), x)] := ⟨(Rd.new W1 [.int .i64 x1, .int .i64 x2, .slice xA xn xc, .int .i64 x3, .int .i64 x4, .int .i64 x5, .int .i64 x6, .int .i64 x7, .int .i64 x8] 38 9 1 rfl (by decide)).wide (fun b' (h : b' = W1.heap.size) => by subst h; simp), fun p hp => by
        rw [List.mem_singleton] at hp; subst hp
        exact (HX1.out.keep (Keeps.below (Below.of_alloc _))).wide (fun b' (h : b' < W1.heap.size) => by show b' < _; simp; omega)⟩
      have KV := encodeVersions_any _ _ _ hone
      have hee : encVsE [x] = if validVer x = true then 0 else 8 := encVsE_one x HX.out.ok
      have HEE := Lib.hid hee
      have hbA : Below W1.heap.size W1 (W1.alloc (.cells #[.int .i64 x1, .int .i64 x2, .slice xA xn xc, .int .i64 x3, .int .i64 x4, .int .i64 x5, .int .i64 x6, .int .i64 x7, .int .i64 x8] 38)) := Below.of_alloc _
      clear hone hee
      rw [hWs] at KV
      go_wp2_with fail
      (with_reducible refine KV.mono ?_)
      rintro _ w2 ⟨u, rfl, hb2', -, hu⟩
      simp only [List.map_cons, List.map_nil] at hu ⊢
      have hb2 : Below W1.heap.size W1 w2 := hbA.trans (hb2'.mono (by simp))
      clear hb2' KV hbA
      by_cases hval : validVer x = true
      case neg =>
        have HVL := Lib.hid (show validVer x = false by simpa using hval)
        rw [HEE.out, if_neg (by rw [HVL.out]; decide)]
        clear hu
        go_wp2_with fail
        go_ret
        exact ⟨ret_int (by rw [HST.out, if_neg (by rw [HVL.out]; decide)]), hB.trans ((hbW.trans (hb2.mono (by omega))).mono hsz)⟩
      case pos =>
        have HVL := Lib.hid hval
        clear hval
        rw [HEE.out, if_pos HVL.out]
        have HU : Hid True := Lib.hid trivial
        clear hu
        have hB2 : Below w.heap.size w w2 := hB.trans ((hbW.trans (hb2.mono (by omega))).mono hsz)
        have hWh2 : w2.heap[wo.heap.size]? = some (.cells #[.int .i64 x1, .int .i64 x2, .slice xA xn xc, .int .i64 x3, .int .i64 x4, .int .i64 x5, .int .i64 x6, .int .i64 x7, .int .i64 x8] 38 (0, 0)) := (hb2.block _ (by omega)).trans hWh
        have hbo : Below wo.heap.size wo w2 := hbW.trans (hb2.mono (by omega))
        have hs2 : wo.heap.size + 1 ≤ w2.heap.size := by have := hb2.size; omega
        have LB : Hid (∀ w', Below w2.heap.size w2 w' → ∀ j u, [.int .i64 x1, .int .i64 x2, .slice xA xn xc, .int .i64 x3, .int .i64 x4, .int .i64 x5, .int .i64 x6, .int .i64 x7, .int .i64 x8][j]? = some u → w'.cell? ⟨wo.heap.size, j, none⟩ = some u) := Lib.hid (fun w' h j u hj => (cell_of_row _ wo.heap.size j _ _ _ ((h.block _ (by omega)).trans hWh2)).trans (by simpa using hj))
        clear hWh hWh2 HX1
        by_cases h0 : k = 0
        case pos =>
          subst h0
          have HN : Hid (res = chkFrom (prevV (ps.map (·.2)) (0 + 1)) ((ps.map (·.2)).drop (0 + 1))) := Lib.hid (by rw [HST.out, if_pos HVL.out]; exact if_pos rfl)
          go_wp2_with fail
          refine wp_region_noPanic ?_
          refine wp_region_held_drew (S := (fun w' => Below w2.heap.size w2 w')) (by kernel_rfl) ?_ (fun hHeld => ?_)
          · exact (Below.refl _ _).drew
          refine heldTake 0 (some 22) (v := ?_) rfl rfl (by kernel_rfl) (by kernel_rfl) (by kernel_rfl) (by rfl) hHeld (fun _ _ _ h => h) ?_ ?_
          rotate_left
          · intro w' hSw; (try dsimp only at hSw); go_simp <;> with_reducible rfl
          simp only [Act.put, List.setIfInBounds_toArray, List.set_cons_zero, List.set_cons_succ]
          refine heldTake 1 (some 23) (v := ?_) rfl rfl (by kernel_rfl) (by kernel_rfl) (by kernel_rfl) (by rfl) hHeld (fun _ _ _ h => h) ?_ ?_
          rotate_left
          · intro w' hSw; (try dsimp only at hSw); go_simp <;> with_reducible rfl
          simp only [Act.put, List.setIfInBounds_toArray, List.set_cons_zero, List.set_cons_succ]
          refine heldTake 2 (some 24) (v := ?_) rfl rfl (by kernel_rfl) (by kernel_rfl) (by kernel_rfl) (by rfl) hHeld (fun _ _ _ h => h) ?_ ?_
          rotate_left
          · intro w' hSw; (try dsimp only at hSw); go_simp <;> with_reducible rfl
          simp only [Act.put, List.setIfInBounds_toArray, List.set_cons_zero, List.set_cons_succ]
          refine heldSkip 3 (some 25) rfl rfl (by kernel_rfl) (by kernel_rfl) (by kernel_rfl) (by rfl) hHeld (fun _ _ _ h => h) ?_
          simp only [Act.put, List.setIfInBounds_toArray, List.set_cons_zero, List.set_cons_succ]
          refine heldSkip 4 (some 26) rfl rfl (by kernel_rfl) (by kernel_rfl) (by kernel_rfl) (by rfl) hHeld (fun _ _ _ h => h) ?_
          simp only [Act.put, List.setIfInBounds_toArray, List.set_cons_zero, List.set_cons_succ]
          refine heldSkip 5 (some 27) rfl rfl (by kernel_rfl) (by kernel_rfl) (by kernel_rfl) (by rfl) hHeld (fun _ _ _ h => h) ?_
          simp only [Act.put, List.setIfInBounds_toArray, List.set_cons_zero, List.set_cons_succ]
          refine heldSkip 6 (some 28) rfl rfl (by kernel_rfl) (by kernel_rfl) (by kernel_rfl) (by rfl) hHeld (fun _ _ _ h => h) ?_
          simp only [Act.put, List.setIfInBounds_toArray, List.set_cons_zero, List.set_cons_succ]
          refine heldSkip 7 (some 29) rfl rfl (by kernel_rfl) (by kernel_rfl) (by kernel_rfl) (by rfl) hHeld (fun _ _ _ h => h) ?_
          simp only [Act.put, List.setIfInBounds_toArray, List.set_cons_zero, List.set_cons_succ]
          refine heldSkip 8 (some 30) rfl rfl (by kernel_rfl) (by kernel_rfl) (by kernel_rfl) (by rfl) hHeld (fun _ _ _ h => h) ?_
          simp only [Act.put, List.setIfInBounds_toArray, List.set_cons_zero, List.set_cons_succ]
          refine heldSkip 9 (some 31) rfl rfl (by kernel_rfl) (by kernel_rfl) (by kernel_rfl) (by rfl) hHeld (fun _ _ _ h => h) ?_
          simp only [Act.put, List.setIfInBounds_toArray, List.set_cons_zero, List.set_cons_succ]
          refine heldSkip 10 (some 32) rfl rfl (by kernel_rfl) (by kernel_rfl) (by kernel_rfl) (by rfl) hHeld (fun _ _ _ h => h) ?_
          simp only [Act.put, List.setIfInBounds_toArray, List.set_cons_zero, List.set_cons_succ]
          refine heldTake 11 (some 33) (v := ?_) rfl rfl (by kernel_rfl) (by kernel_rfl) (by kernel_rfl) (by rfl) hHeld (fun _ _ _ h => h) ?_ ?_
          rotate_left
          · intro w' hSw; (try dsimp only at hSw); go_simp <;> with_reducible rfl
          simp only [Act.put, List.setIfInBounds_toArray, List.set_cons_zero, List.set_cons_succ]
          refine wpAnyH_done (by kernel_rfl) ?_ _
          refine NoPanic.normal ?_
          clear hHeld
          go_wp2_with fail
          go_roundw
          case rel => exact ⟨1, rfl, by omega, Lib.hid HN.out.symm, hB2.drew⟩
          case measure => simp [intOf]; omega
        case neg =>
          obtain ⟨q, hq1, hq2, hq3⟩ := HPV.out (by omega)
          obtain ⟨i, rfl⟩ : ∃ i, k = i + 1 := ⟨k - 1, by omega⟩
          rw [Nat.add_sub_cancel] at hq3
          obtain ⟨⟨y1, y2, yA, yn, yc, y3, y4, y5, y6, y7, y8⟩, y⟩ := q
          simp only at hq1 hq2 hq3
          have HST2 := HST.out
          rw [if_pos HVL.out, hq1] at HST2
          have eo : okPrev (some y) x = ltV y x := rfl
          rw [eo] at HST2
          have hlv := hq2.lt HX.out
          obtain ⟨lb, hlb⟩ : ∃ lb, lb = ltV y x := ⟨_, rfl⟩
          rw [← hlb] at hlv HST2
          have HS2 := Lib.hid HST2
          clear HST2 hq1 hlb HPV
          have PC : Hid (∀ w', Below w2.heap.size w2 w' → ∀ j u, j < 9 → [.int .i64 y1, .int .i64 y2, .slice yA yn yc, .int .i64 y3, .int .i64 y4, .int .i64 y5, .int .i64 y6, .int .i64 y7, .int .i64 y8][j]? = some u → w'.cell? ⟨b, off + i * 9 + j, none⟩ = some u) := Lib.hid (fun w' h j u hj hu => (World.cell?_of_block ((h.block b (by omega)).trans (hbo.block b (by omega)))).trans (hq3 j u hj hu))
          clear hq3 hq2
          have ew : IntKind.i64.wrap (((i + 1 : Nat) : Int) - 1) = ((i : Nat) : Int) := by rw [IntKind.wrap_i64]; omega
          have ew2 : IntKind.i64.wrap (((i + 1 : Nat) : Int) + 1) = ((i + 1 + 1 : Nat) : Int) := by rw [IntKind.wrap_i64]; omega
          have hil : (i : Int) < (ps.length : Int) := by omega
          have hip : (0 : Int) < ((i + 1 : Nat) : Int) := by omega
          obtain ⟨cv, hcv⟩ : ∃ cv, cv = cmpV (⟨y1, y2, yA, yn, yc, y3, y4, y5, y6, y7, y8⟩ : RV) (⟨x1, x2, xA, xn, xc, x3, x4, x5, x6, x7, x8⟩ : RV) := ⟨_, rfl⟩
          have HCB : Hid ((cv < 0 → lb = true) ∧ (lb = true → cv < 0)) := Lib.hid ⟨fun h => by rw [← hlv, ltOf, ← hcv]; exact decide_eq_true h, fun h => by rw [← hlv, ltOf, ← hcv] at h; exact of_decide_eq_true h⟩
          have KC : ∀ W, Calls Try.prog 17 #[.agg #[.int .i64 y1, .int .i64 y2, .slice yA yn yc, .int .i64 y3, .int .i64 y4, .int .i64 y5, .int .i64 y6, .int .i64 y7, .int .i64 y8], .agg #[.int .i64 x1, .int .i64 x2, .slice xA xn xc, .int .i64 x3, .int .i64 x4, .int .i64 x5, .int .i64 x6, .int .i64 x7, .int .i64 x8]] W fun e w' => e = .returned (.int .i64 cv) ∧ Below W.heap.size W w' := fun W => by rw [hcv]; exact order_any (⟨y1, y2, yA, yn, yc, y3, y4, y5, y6, y7, y8⟩ : RV) (⟨x1, x2, xA, xn, xc, x3, x4, x5, x6, x7, x8⟩ : RV) W
          have EW := Lib.hid ew2
          clear ew2 hlv hcv
          obtain ⟨z, hz⟩ : ∃ z, z = i + 1 := ⟨_, rfl⟩
          have HZ := Lib.hid hz
          rw [← hz] at ew hip hlt HS2 HI ⊢
          have EW2 : Hid (IntKind.i64.wrap ((z : Int) + 1) = ((z + 1 : Nat) : Int)) := Lib.hid (by rw [HZ.out]; exact EW.out)
          have hz0 : 0 < z := by omega
          have HLT := Lib.hid (And.intro hlt (show i + 1 ≤ ps.length from hk))
          clear hz
          go_wp2_with fail
          refine wp_region_noPanic ?_
          refine wp_region_held_drew (S := (fun w' => Below w2.heap.size w2 w')) (by kernel_rfl) ?_ (fun hHeld => ?_)
          · exact (Below.refl _ _).drew
          refine heldTake 0 (some 22) (v := ?_) rfl rfl (by kernel_rfl) (by kernel_rfl) (by kernel_rfl) (by rfl) hHeld (fun _ _ _ h => h) ?_ ?_
          rotate_left
          · intro w' hSw; (try dsimp only at hSw); go_simp <;> with_reducible rfl
          simp only [Act.put, List.setIfInBounds_toArray, List.set_cons_zero, List.set_cons_succ]
          refine heldTake 1 (some 23) (v := ?_) rfl rfl (by kernel_rfl) (by kernel_rfl) (by kernel_rfl) (by rfl) hHeld (fun _ _ _ h => h) ?_ ?_
          rotate_left
          · intro w' hSw; (try dsimp only at hSw); go_simp <;> with_reducible rfl
          simp only [Act.put, List.setIfInBounds_toArray, List.set_cons_zero, List.set_cons_succ]
          refine heldTake 2 (some 24) (v := ?_) rfl rfl (by kernel_rfl) (by kernel_rfl) (by kernel_rfl) (by rfl) hHeld (fun _ _ _ h => h) ?_ ?_
          rotate_left
          · intro w' hSw; (try dsimp only at hSw); go_simp <;> with_reducible rfl
          simp only [Act.put, List.setIfInBounds_toArray, List.set_cons_zero, List.set_cons_succ]
          refine heldTake 3 (some 25) (v := ?_) rfl rfl (by kernel_rfl) (by kernel_rfl) (by kernel_rfl) (by rfl) hHeld (fun _ _ _ h => h) ?_ ?_
          rotate_left
          · intro w' hSw; (try dsimp only at hSw); go_simp <;> with_reducible rfl
          simp only [Act.put, List.setIfInBounds_toArray, List.set_cons_zero, List.set_cons_succ]
          refine heldTake 4 (some 26) (v := ?_) rfl rfl (by kernel_rfl) (by kernel_rfl) (by kernel_rfl) (by rfl) hHeld (fun _ _ _ h => h) ?_ ?_
          rotate_left
          · intro w' hSw; (try dsimp only at hSw); go_simp <;> with_reducible rfl
          simp only [Act.put, List.setIfInBounds_toArray, List.set_cons_zero, List.set_cons_succ]
          refine heldTake 5 (some 27) (v := ?_) rfl rfl (by kernel_rfl) (by kernel_rfl) (by kernel_rfl) (by rfl) hHeld (fun _ _ _ h => h) ?_ ?_
          rotate_left
          · intro w' hSw; (try dsimp only at hSw); go_simp <;> with_reducible rfl
          simp only [Act.put, List.setIfInBounds_toArray, List.set_cons_zero, List.set_cons_succ]
          refine heldTake 6 (some 28) (v := ?_) rfl rfl (by kernel_rfl) (by kernel_rfl) (by kernel_rfl) (by rfl) hHeld (fun _ _ _ h => h) ?_ ?_
          rotate_left
          · intro w' hSw; (try dsimp only at hSw); go_simp <;> with_reducible rfl
          simp only [Act.put, List.setIfInBounds_toArray, List.set_cons_zero, List.set_cons_succ]
          refine heldTake 7 (some 29) (v := ?_) rfl rfl (by kernel_rfl) (by kernel_rfl) (by kernel_rfl) (by rfl) hHeld (fun _ _ _ h => h) ?_ ?_
          rotate_left
          · intro w' hSw; (try dsimp only at hSw); have c0 : w'.cell? ⟨b, off + i * 9, none⟩ = some (.int .i64 y1) := PC.out w' hSw 0 _ (by decide) rfl; have c1 : w'.cell? ⟨b, off + i * 9 + 1, none⟩ = some (.int .i64 y2) := PC.out w' hSw 1 _ (by decide) rfl; have c2 : w'.cell? ⟨b, off + i * 9 + 2, none⟩ = some (.slice yA yn yc) := PC.out w' hSw 2 _ (by decide) rfl; have c3 : w'.cell? ⟨b, off + i * 9 + 3, none⟩ = some (.int .i64 y3) := PC.out w' hSw 3 _ (by decide) rfl; have c4 : w'.cell? ⟨b, off + i * 9 + 4, none⟩ = some (.int .i64 y4) := PC.out w' hSw 4 _ (by decide) rfl; have c5 : w'.cell? ⟨b, off + i * 9 + 5, none⟩ = some (.int .i64 y5) := PC.out w' hSw 5 _ (by decide) rfl; have c6 : w'.cell? ⟨b, off + i * 9 + 6, none⟩ = some (.int .i64 y6) := PC.out w' hSw 6 _ (by decide) rfl; have c7 : w'.cell? ⟨b, off + i * 9 + 7, none⟩ = some (.int .i64 y7) := PC.out w' hSw 7 _ (by decide) rfl; have c8 : w'.cell? ⟨b, off + i * 9 + 8, none⟩ = some (.int .i64 y8) := PC.out w' hSw 8 _ (by decide) rfl; go_simp <;> with_reducible rfl
          simp only [Act.put, List.setIfInBounds_toArray, List.set_cons_zero, List.set_cons_succ]
          refine heldTake 8 (some 30) (v := ?_) rfl rfl (by kernel_rfl) (by kernel_rfl) (by kernel_rfl) (by rfl) hHeld (fun _ _ _ h => h) ?_ ?_
          rotate_left
          · intro w' hSw; (try dsimp only at hSw); have c0 : w'.cell? ⟨wo.heap.size, 0, none⟩ = some (.int .i64 x1) := LB.out w' hSw 0 _ rfl; have c1 : w'.cell? ⟨wo.heap.size, 1, none⟩ = some (.int .i64 x2) := LB.out w' hSw 1 _ rfl; have c2 : w'.cell? ⟨wo.heap.size, 2, none⟩ = some (.slice xA xn xc) := LB.out w' hSw 2 _ rfl; have c3 : w'.cell? ⟨wo.heap.size, 3, none⟩ = some (.int .i64 x3) := LB.out w' hSw 3 _ rfl; have c4 : w'.cell? ⟨wo.heap.size, 4, none⟩ = some (.int .i64 x4) := LB.out w' hSw 4 _ rfl; have c5 : w'.cell? ⟨wo.heap.size, 5, none⟩ = some (.int .i64 x5) := LB.out w' hSw 5 _ rfl; have c6 : w'.cell? ⟨wo.heap.size, 6, none⟩ = some (.int .i64 x6) := LB.out w' hSw 6 _ rfl; have c7 : w'.cell? ⟨wo.heap.size, 7, none⟩ = some (.int .i64 x7) := LB.out w' hSw 7 _ rfl; have c8 : w'.cell? ⟨wo.heap.size, 8, none⟩ = some (.int .i64 x8) := LB.out w' hSw 8 _ rfl; go_simp <;> with_reducible rfl
          simp only [Act.put, List.setIfInBounds_toArray, List.set_cons_zero, List.set_cons_succ]
          refine heldCall 9 (some 31) (f := ?_) (args := ?_) rfl rfl (by kernel_rfl) (by rfl) ?_ ?_
          rotate_left 2
          · go_simp <;> first | (constructor <;> with_reducible rfl) | with_reducible rfl
          (with_reducible refine (KC _).mono ?_)
          rintro _ w3 ⟨rfl, hb3'⟩
          have hb3 : Below w2.heap.size w2 w3 := (Below.undrew hb3')
          refine ⟨_, rfl, keepAnd ?_ (fun hNew => ?_)⟩
          · exact hb3
          clear hHeld
          have hHeld := hNew
          clear hNew
          simp only [Act.put, List.setIfInBounds_toArray, List.set_cons_zero, List.set_cons_succ]
          refine heldTake 10 (some 32) (v := ?_) rfl rfl (by kernel_rfl) (by kernel_rfl) (by kernel_rfl) (by rfl) hHeld (fun _ _ _ h => h) ?_ ?_
          rotate_left
          · intro w' hSw; (try dsimp only at hSw); go_simp <;> with_reducible rfl
          simp only [Act.put, List.setIfInBounds_toArray, List.set_cons_zero, List.set_cons_succ]
          refine heldTake 11 (some 33) (v := ?_) rfl rfl (by kernel_rfl) (by kernel_rfl) (by kernel_rfl) (by rfl) hHeld (fun _ _ _ h => h) ?_ ?_
          rotate_left
          · intro w' hSw; (try dsimp only at hSw); go_simp <;> with_reducible rfl
          simp only [Act.put, List.setIfInBounds_toArray, List.set_cons_zero, List.set_cons_succ]
          refine wpAnyH_done (by kernel_rfl) ?_ _
          refine NoPanic.normal ?_
          clear hHeld
          have hB3 : Below w.heap.size w w3 := hB2.trans (hb3.mono (by have := hB2.size; omega))
          cases lb
          case false =>
            have HN : Hid (res = 9) := Lib.hid (by rw [HS2.out]; exact if_neg (by decide))
            have hcn : ¬ cv < 0 := fun h => absurd (HCB.out.1 h) (by decide)
            have hcn2 : (0 : Int) ≤ cv := by omega
            go_wp2_with fail
            all_goals first | go_ret | skip
            exact ⟨ret_int HN.out.symm, hB3⟩
          case true =>
            have HN : Hid (res = chkFrom (prevV (ps.map (·.2)) (z + 1)) ((ps.map (·.2)).drop (z + 1))) := Lib.hid (by rw [HS2.out]; exact if_pos rfl)
            have hcn : cv < 0 := HCB.out.2 rfl
            have hcn2 : ¬ (0 : Int) ≤ cv := by omega
            go_wp2_with fail
            go_roundw
            case rel => exact ⟨z + 1, by go_num, by have := HLT.out.1; omega, Lib.hid HN.out.symm, hB3⟩
            case measure => have q1 := HLT.out.1; have q2 := HZ.out; simp [intOf]; omega
end Go.Proofs.Ytkhmjlahlcighaa
