/-
  Slices of versions; the versions that a segment stores.
-/
import Derived.Test.YtacjiocffbgkkaaGreatSegB
namespace Go.Proofs.YtacjiocffbgkkaaGreat
open Go.RowKit Go.Lib Go.IntWalk Go.Sort Go.Shelf

section
variable {P : Program} {t e : TypeId} {i : TypeInfo} {size : Nat}
theorem run_slice_lohimax (ht : P.underlying t = some (.slice e)) (hi : P.info? e = some i) (hs : i.size = size) (A : Option Addr) (n c l h m : Nat) (h1 : l ≤ h) (h2 : h ≤ m) (h3 : m ≤ c) (w : World) :
    (Instr.slice t (.slice A n c) (some (.int .i64 (l : Int))) (some (.int .i64 (h : Int))) (some (.int .i64 (m : Int)))).run P w = .ok (.slice (cutA A m l size) (h - l) (m - l)) w := by
  simp [Instr.slice, run_underlying ht, Instr.sliceBounds, Instr.sliceBound, asIntOf, sizeOf, typeInfo, hi, hs, h1, h2, h3, cutA]
end
theorem slice_vers {A : Option Addr} {n c : Nat} (i j : Nat) (hij : i ≤ j) (hj : j ≤ c) (w : World) :
    (Instr.slice 22 (.slice A n c) (some (.int .i64 (i : Int))) (some (.int .i64 (j : Int))) none).run Tryz.prog w = .ok (.slice (cutA A c i 9) (j - i) (c - i)) w := by
  obtain ⟨i0, hi, hz0, hz1, hz2⟩ := info_parts infoVer
  exact run_slice_lohi (P := Tryz.prog) Tryz.underlying22 hi hz1 A n c i j hij hj w
theorem slice_vers3 {A : Option Addr} {n c : Nat} (i j : Nat) (hij : i ≤ j) (hj : j ≤ c) (w : World) :
    (Instr.slice 22 (.slice A n c) (some (.int .i64 (i : Int))) (some (.int .i64 (j : Int))) (some (.int .i64 (j : Int)))).run Tryz.prog w = .ok (.slice (cutA A j i 9) (j - i) (j - i)) w := by
  obtain ⟨i0, hi, hz0, hz1, hz2⟩ := info_parts infoVer
  exact run_slice_lohimax (P := Tryz.prog) Tryz.underlying22 hi hz1 A n c i j j hij (Nat.le_refl _) hj w
theorem flat_drop {α : Type} (n : Nat) (f : α → List Value) (hf : ∀ x, (f x).length = n) : ∀ (i : Nat) (l : List α), (l.flatMap f).drop (i * n) = (l.drop i).flatMap f := by
  intro i
  induction i with
  | zero => intro l; simp
  | succ i ih =>
    intro l
    cases l with
    | nil => simp
    | cons a r =>
      rw [List.flatMap_cons, List.drop_succ_cons, ← ih r, Nat.succ_mul, Nat.add_comm, ← List.drop_drop]
      congr 1
      rw [← hf a, List.drop_left]
theorem flat_take {α : Type} (n : Nat) (f : α → List Value) (hf : ∀ x, (f x).length = n) : ∀ (i : Nat) (l : List α), (l.flatMap f).take (i * n) = (l.take i).flatMap f := by
  intro i
  induction i with
  | zero => intro l; simp
  | succ i ih =>
    intro l
    cases l with
    | nil => simp
    | cons a r =>
      rw [List.flatMap_cons, List.take_succ_cons, List.flatMap_cons, ← ih r, Nat.succ_mul, Nat.add_comm, List.take_add, ← hf a, List.take_left, List.drop_left]
theorem RdVs.cut {w : World} {F : Nat → Prop} {A : Option Addr} {c : Nat} {ps : List VP} (h : RdVs w F (.slice A ps.length c) ps) {i j m : Nat} (hij : i ≤ j) (hj : j ≤ ps.length) (hm : j ≤ m) (hmc : m ≤ c) :
    RdVs w F (.slice (cutA A m i 9) (j - i) (m - i)) ((ps.drop i).take (j - i)) := by
  refine ⟨?_, fun p hp => h.2 p (List.mem_of_mem_drop (List.mem_of_mem_take hp))⟩
  have h1 := Rd.cut' h.1 (l := i) (h := j) (m := m) hij hj hm hmc
  rw [flat_drop 9 _ (fun p => p.1.enc_length), flat_take 9 _ (fun p => p.1.enc_length)] at h1
  have e : ((ps.drop i).take (j - i)).length = j - i := by rw [List.length_take, List.length_drop]; omega
  rw [e]
  exact h1
theorem take_one {α : Type} {l : List α} {k : Nat} (hk : k < l.length) : (l.drop k).take (k + 1 - k) = [l[k]] := by
  rw [Nat.add_sub_cancel_left, List.drop_eq_getElem_cons hk]; rfl
theorem take_two {α : Type} {l : List α} {k : Nat} (hk : k + 1 < l.length) : (l.drop k).take (k + 2 - k) = [l[k], l[k + 1]] := by
  rw [Nat.add_sub_cancel_left, List.drop_eq_getElem_cons (by omega), List.drop_eq_getElem_cons hk]; rfl

def closed (x : Ver) : Bool := validVer x && !decide (x.st = 1099511627776)
def segChk : Option Ver → List Ver → Int
  | _, [] => 0
  | p, x :: r => if closed x = true then (if okPrev p x = true then segChk (some x) r else 9) else 8
theorem segChk_cons (p : Option Ver) (x : Ver) (r : List Ver) : segChk p (x :: r) = if closed x = true then (if okPrev p x = true then segChk (some x) r else 9) else 8 := rfl
theorem seg_step {xs : List Ver} {k : Nat} (hk : k < xs.length) : segChk (prevV xs k) (xs.drop k) = if closed xs[k] = true then (if okPrev (prevV xs k) xs[k] = true then segChk (prevV xs (k + 1)) (xs.drop (k + 1)) else 9) else 8 := by
  have e : prevV xs (k + 1) = some xs[k] := by unfold prevV; rw [if_neg (by omega), Nat.add_sub_cancel, List.getElem?_eq_getElem hk]
  rw [List.drop_eq_getElem_cons hk, segChk_cons, e]
theorem seg_end {xs : List Ver} {k : Nat} (hk : k = xs.length) : segChk (prevV xs k) (xs.drop k) = 0 := by subst hk; rw [List.drop_length]; rfl
theorem segChk_cases (p : Option Ver) (xs : List Ver) : segChk p xs = 0 ∨ segChk p xs = 8 ∨ segChk p xs = 9 := by
  induction xs generalizing p with
  | nil => exact .inl rfl
  | cons x r ih =>
    rw [segChk_cons]
    split
    · split
      · exact ih _
      · exact .inr (.inr rfl)
    · exact .inr (.inl rfl)
theorem encVsE_two {p x : Ver} (hp : validVer p = true) (hx : validVer x = true) : encVsE [p, x] = 9 ↔ ltV p x = false := by
  have hc : chkFrom none [p, x] = if ltV p x = true then 0 else 9 := by
    rw [chkFrom_cons, if_pos hp, if_pos (show okPrev none p = true from rfl), chkFrom_cons, if_pos hx]
    rfl
  unfold encVsE
  rw [if_neg (by simp), hc]
  by_cases h : ltV p x = true
  · rw [if_pos h, if_neg (by simp), h]
    split <;> simp
  · rw [if_neg h, if_pos (by decide)]
    simpa using h

set_option maxRecDepth 1000000 in
set_option maxHeartbeats 8000000 in
theorem segCheck_any (v : Value) (ps : List VP) (w : World) (hv : RdVs w (· < w.heap.size) v ps) :
    Calls Tryz.prog 65 #[v] w fun e w' => e = .returned (.int .i64 (segChk none (ps.map (·.2)))) ∧ Below w.heap.size w w' := by
  obtain ⟨A, c, rfl, hc1, hc2, hc3⟩ := hv.1.open_
  unfold maxLen at hc2
  have HVS := Lib.hid hv
  clear hv
  obtain ⟨res, hres⟩ : ∃ res, res = segChk none (ps.map (·.2)) := ⟨_, rfl⟩
  rw [← hres]
  have HRES := Lib.hid hres
  clear hres hc3
  go_enter Tryz.func65, Tryz.ntmps65
  go_wp2_with fail
  go_loopw [11] (fun i wr => ∃ k : Nat, i = .int .i64 (k : Int) ∧ k ≤ ps.length ∧ Hid (segChk (prevV (ps.map (·.2)) k) ((ps.map (·.2)).drop k) = res) ∧ Hid (∀ j (h : j < ps.length), j + 1 = k → validVer ps[j].2 = true) ∧ Below w.heap.size w wr) (fun i _ => ps.length - (intOf i).toNat)
  case atStart => exact ⟨0, rfl, Nat.zero_le _, Lib.hid HRES.out.symm, Lib.hid (fun j h e => by omega), Below.refl _ _⟩
  case round =>
    obtain ⟨k, rfl, hk, HI, HPR, hB⟩ := hrel
    obtain ⟨wo, rfl⟩ : ∃ wo : World, wo = wr := ⟨_, rfl⟩
    have hsz := hB.size
    by_cases hlt : k < ps.length
    case neg =>
      have hke : k = ps.length := by omega
      have HZ : Hid (res = 0) := Lib.hid (by rw [← HI.out]; exact seg_end (by rw [List.length_map]; exact hke))
      subst hke
      go_wp2_with fail
      go_ret
      exact ⟨ret_int HZ.out.symm, hB⟩
    case pos =>
      have hst := seg_step (xs := ps.map (·.2)) (k := k) (by rw [List.length_map]; exact hlt)
      rw [HI.out, List.getElem_map] at hst
      have hVo := HVS.out.below hB
      obtain ⟨b, off, rfl, hF, hcl, hx⟩ := RdVs.at_ hVo hlt
      have HV1 : Hid (RdVs wo (· < wo.heap.size) (.slice (cutA (some ⟨b, off, none⟩) c k 9) 1 (c - k)) [ps[k]]) := Lib.hid (by
        have h := RdVs.cut hVo (i := k) (j := k + 1) (m := c) (by omega) (by omega) (by omega) (Nat.le_refl _)
        rw [take_one hlt, show k + 1 - k = 1 by omega] at h
        exact h)
      have HV2 : Hid (∀ j (h : j < ps.length), j + 1 = k → RdVs wo (· < wo.heap.size) (.slice (cutA (some ⟨b, off, none⟩) c j 9) 2 (c - j)) [ps[j], ps[k]]) := Lib.hid (fun j hj e => by
        subst e
        have h := RdVs.cut hVo (i := j) (j := j + 2) (m := c) (by omega) (by omega) (by omega) (Nat.le_refl _)
        rw [take_two hlt, show j + 2 - j = 2 by omega] at h
        exact h)
      have HPV : Hid (∀ j (h : j < ps.length), j + 1 = k → prevV (ps.map (·.2)) k = some ps[j].2) := Lib.hid (fun j hj e => by
        subst e
        unfold prevV
        rw [if_neg (by omega), List.getElem?_map, Nat.add_sub_cancel, List.getElem?_eq_getElem hj]; rfl)
      have HNX : Hid (∀ j (h : j < ps.length), j + 1 = k + 1 → ps[j] = ps[k]) := Lib.hid (fun j hj e => by cases Nat.succ.inj e; rfl)
      have HST := Lib.hid hst
      clear hst hVo
      generalize hpk : ps[k] = p at *
      clear hpk
      obtain ⟨⟨x1, x2, xA, xn, xc, x3, x4, x5, x6, x7, x8⟩, x⟩ := p
      simp only at hcl hx HST
      have g0 : wo.cell? ⟨b, off + k * 9, none⟩ = some (.int .i64 x1) := hcl 0 _ (by decide) rfl
      have g1 : wo.cell? ⟨b, off + k * 9 + 1, none⟩ = some (.int .i64 x2) := hcl 1 _ (by decide) rfl
      have g2 : wo.cell? ⟨b, off + k * 9 + 2, none⟩ = some (.slice xA xn xc) := hcl 2 _ (by decide) rfl
      have g3 : wo.cell? ⟨b, off + k * 9 + 3, none⟩ = some (.int .i64 x3) := hcl 3 _ (by decide) rfl
      have g4 : wo.cell? ⟨b, off + k * 9 + 4, none⟩ = some (.int .i64 x4) := hcl 4 _ (by decide) rfl
      have g5 : wo.cell? ⟨b, off + k * 9 + 5, none⟩ = some (.int .i64 x5) := hcl 5 _ (by decide) rfl
      have g6 : wo.cell? ⟨b, off + k * 9 + 6, none⟩ = some (.int .i64 x6) := hcl 6 _ (by decide) rfl
      have g7 : wo.cell? ⟨b, off + k * 9 + 7, none⟩ = some (.int .i64 x7) := hcl 7 _ (by decide) rfl
      have g8 : wo.cell? ⟨b, off + k * 9 + 8, none⟩ = some (.int .i64 x8) := hcl 8 _ (by decide) rfl
      have HX := Lib.hid hx
      clear hcl hx
      obtain ⟨W1, hW1⟩ : ∃ W1, W1 = wo.alloc (.cells #[.int .i64 x1, .int .i64 x2, .slice xA xn xc, .int .i64 x3, .int .i64 x4, .int .i64 x5, .int .i64 x6, .int .i64 x7, .int .i64 x8] 61) := ⟨_, rfl⟩
      have hWs : W1.heap.size = wo.heap.size + 1 := by rw [hW1]; simp
      have hbW : Below wo.heap.size wo W1 := by rw [hW1]; exact Below.of_alloc _
      have hWh : W1.heap[wo.heap.size]? = some (.cells #[.int .i64 x1, .int .i64 x2, .slice xA xn xc, .int .i64 x3, .int .i64 x4, .int .i64 x5, .int .i64 x6, .int .i64 x7, .int .i64 x8] 61 (0, 0)) := by rw [hW1]; exact heap_alloc_new wo _
      have hsl1 := fun W => slice_vers (A := some ⟨b, off, none⟩) (n := ps.length) (c := c) k (k + 1) (by omega) (by omega) W
      rw [Int.natCast_add, show ((1 : Nat) : Int) = 1 from rfl] at hsl1
      have hwk : IntKind.i64.wrap ((k : Int) + 1) = (k : Int) + 1 := by rw [IntKind.wrap_i64]; omega
      have KV := encodeVersions_any _ _ W1 (HV1.out.below hbW)
      have hee := encVsE_one x HX.out.ok
      have HEE := Lib.hid hee
      clear hee
      go_wp2_with fail
      rw [← hW1]
      clear hW1 g0 g1 g2 g3 g4 g5 g6 g7 g8 hsl1
      (with_reducible refine KV.mono ?_)
      rintro _ w2 ⟨u, rfl, hb2, -, -⟩
      simp only [List.map_cons, List.map_nil]
      clear KV
      have hB2 : Below wo.heap.size wo w2 := hbW.trans (hb2.mono (by omega))
      have hWh2 : w2.heap[wo.heap.size]? = some (.cells #[.int .i64 x1, .int .i64 x2, .slice xA xn xc, .int .i64 x3, .int .i64 x4, .int .i64 x5, .int .i64 x6, .int .i64 x7, .int .i64 x8] 61 (0, 0)) := (hb2.block _ (by omega)).trans hWh
      have c6 : w2.cell? ⟨wo.heap.size, 6, none⟩ = some (.int .i64 x6) := cell_of_row w2 _ 6 _ _ _ hWh2
      have HB2 := Lib.hid (hB.trans (hB2.mono hsz))
      have HB2o := Lib.hid hB2
      clear hWh hWh2 hb2 hbW hB2 hWs
      have e6 : x6 = x.st := HX.out.st
      by_cases hval : validVer x = true
      case neg =>
        have HF : Hid (res = 8) := Lib.hid (by rw [HST.out, if_neg (by unfold closed; simp [hval])])
        rw [HEE.out, if_neg hval]
        clear hval
        go_wp2_with fail
        go_ret
        exact ⟨ret_int HF.out.symm, HB2.out⟩
      case pos =>
        rw [HEE.out, if_pos hval]
        by_cases h6 : x6 = 1099511627776
        case pos =>
          have HF : Hid (res = 8) := Lib.hid (by rw [HST.out, if_neg (by unfold closed; rw [← e6, h6]; simp)])
          clear hval e6
          go_wp2_with fail
          go_ret
          exact ⟨ret_int HF.out.symm, HB2.out⟩
        case neg =>
          have hcl : closed x = true := by unfold closed; rw [hval, ← e6]; simp [h6]
          have HC : Hid (res = if okPrev (prevV (ps.map (·.2)) k) x = true then segChk (prevV (ps.map (·.2)) (k + 1)) ((ps.map (·.2)).drop (k + 1)) else 9) := Lib.hid (by rw [HST.out, if_pos hcl])
          have HVL : Hid (validVer x = true) := Lib.hid hval
          have HNP : Hid (∀ j (h : j < ps.length), j + 1 = k + 1 → validVer ps[j].2 = true) := Lib.hid (fun j h e => by rw [HNX.out j h e]; exact HVL.out)
          clear hcl hval e6
          by_cases hk0 : k = 0
          case pos =>
            have hz1 : ¬ (0 : Int) < (k : Int) := by omega
            have hz2 : ¬ 0 < k := by omega
            have HN : Hid (segChk (prevV (ps.map (·.2)) (k + 1)) ((ps.map (·.2)).drop (k + 1)) = res) := Lib.hid (by rw [HC.out, if_pos (by subst hk0; rfl)])
            clear hk0
            go_wp2_with fail
            go_roundw
            case rel => exact ⟨k + 1, by go_num, by omega, HN, HNP, HB2.out⟩
            case measure => simp [intOf]; omega
          case neg =>
            obtain ⟨j, hj⟩ : ∃ j, j + 1 = k := ⟨k - 1, by omega⟩
            have hjl : j < ps.length := by omega
            have hz1 : (0 : Int) < (k : Int) := by omega
            have hz2 : 0 < k := by omega
            have hV2 := HV2.out j hjl hj
            have hp2 := HPR.out j hjl hj
            have hpv := HPV.out j hjl hj
            have hsl2 := fun W => slice_vers (A := some ⟨b, off, none⟩) (n := ps.length) (c := c) j (j + 2) (by omega) (by omega) W
            have hwj : IntKind.i64.wrap ((k : Int) - 1) = (j : Int) := by rw [IntKind.wrap_i64]; omega
            rw [show ((j + 2 : Nat) : Int) = (k : Int) + 1 by omega, show j + 2 - j = 2 by omega] at hsl2
            have KV := encodeVersions_any _ _ w2 (hV2.below HB2o.out)
            have htwo := encVsE_two hp2 HVL.out
            have hC2 := HC.out
            rw [hpv, show okPrev (some ps[j].2) x = ltV ps[j].2 x from rfl] at hC2
            unfold EncVOut at KV
            simp only [List.map_cons, List.map_nil] at KV
            generalize encVsE [ps[j].2, x] = ev at *
            have HC2 := Lib.hid hC2
            have HTW := Lib.hid htwo
            have HJ := Lib.hid hj
            clear hV2 hp2 hpv hC2 htwo hj hk0
            go_wp2_with fail
            (with_reducible refine KV.mono ?_)
            rintro _ w3 ⟨u3, rfl, hb3, -, -⟩
            have HB3 : Hid (Below w.heap.size w w3) := Lib.hid (HB2.out.trans (hb3.mono HB2.out.size))
            clear hb3 KV hsl2
            by_cases hev : ev = 9
            case pos =>
              have HF : Hid (res = 9) := Lib.hid (by rw [HC2.out, if_neg (by rw [HTW.out.1 hev]; decide)])
              subst hev
              go_wp2_with fail
              go_ret
              exact ⟨ret_int HF.out.symm, HB3.out⟩
            case neg =>
              have HN : Hid (segChk (prevV (ps.map (·.2)) (k + 1)) ((ps.map (·.2)).drop (k + 1)) = res) := Lib.hid (by rw [HC2.out, if_pos (by
                rcases hb : ltV ps[j].2 x with _ | _
                · exact absurd (HTW.out.2 hb) hev
                · rfl)])
              go_wp2_with fail
              go_roundw
              case rel => exact ⟨k + 1, by go_num, by omega, HN, HNP, HB3.out⟩
              case measure => simp [intOf]; omega
end Go.Proofs.YtacjiocffbgkkaaGreat
