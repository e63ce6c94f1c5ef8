/-
  compaction.Merge: the walk.
-/
import Derived.Test.YtkhmjlahlcighaaVerH
namespace Go.Proofs.Ytkhmjlahlcighaa
open Go.RowKit Go.Lib Go.IntWalk Go.Sort Go.Shelf

theorem insert_nil (w : World) : Calls Try.prog 32 #[.slice none 0 0, .int .i64 0, .int .i64 0, .func (.func 17) #[] #[]] w fun e w' => e = .returned (.tuple #[]) ∧ w' = w := by
  go_enter Try.func32, Try.ntmps32
  go_wp2_with fail
  go_loopw [8] (fun vi wr => vi = .int .i64 1 ∧ wr = w) (fun _ _ => 0)
  case atStart => exact ⟨rfl, rfl⟩
  case round =>
    obtain ⟨rfl, rfl⟩ := hrel
    go_wp2_with fail
    go_end0
    exact ⟨rfl, rfl⟩
theorem stable_nil (w : World) : Calls Try.prog 23 #[.slice none 0 0, .int .i64 0, .func (.func 17) #[] #[]] w fun e w' => e = .returned (.tuple #[]) ∧ w' = w := by
  go_enter Try.func23, Try.ntmps23
  go_wp2_with fail
  go_loopw [7, 8] (fun va vb wr => va = .int .i64 0 ∧ vb = .int .i64 20 ∧ wr = w) (fun _ _ _ => 0)
  case atStart => exact ⟨rfl, rfl, rfl⟩
  case round =>
    obtain ⟨rfl, rfl, hw⟩ := hrel
    rw [hw]
    clear hw
    go_wp2_with fail
    (with_reducible refine (insert_nil _).mono ?_)
    rintro _ w1 ⟨rfl, hw1⟩
    rw [hw1]
    clear hw1 w1
    go_wp2_with fail
    go_loopw [6] (fun va wr2 => va = .int .i64 20 ∧ wr2 = w) (fun _ _ => 0)
    case atStart => exact ⟨rfl, rfl⟩
    case round =>
      obtain ⟨rfl, hw2⟩ := hrel
      rw [hw2]
      clear hw2
      go_wp2_with fail
      go_end0
      exact ⟨rfl, rfl⟩
theorem sort_nil (w : World) : Calls Try.prog 16 #[.slice none 0 0, .func (.func 17) #[] #[]] w fun e w' => e = .returned (.tuple #[]) ∧ w' = w := by
  go_enter Try.func16, Try.ntmps16
  go_wp2_with fail
  (with_reducible refine (stable_nil _).mono ?_)
  rintro _ w1 ⟨rfl, hw1⟩
  rw [hw1]
  clear hw1 w1
  go_wp2_with fail
  go_end0
  exact ⟨rfl, rfl⟩
def xss (ls : List LVP) : List (List Ver) := ls.map fun p => p.2.map (·.2)
theorem xss_flat (ls : List LVP) : (xss ls).flatten = (allP ls).map (·.2) := by
  induction ls with
  | nil => rfl
  | cons a r ih =>
    simp only [xss, allP, List.map_cons, List.flatten_cons, List.flatMap_cons, List.map_append] at ih ⊢
    rw [ih]
theorem mchk_step {ls : List LVP} {k : Nat} (hk : k < ls.length) : mchk ((xss ls).drop k) = if chkFrom none (ls[k].2.map (·.2)) = 0 then mchk ((xss ls).drop (k + 1)) else chkFrom none (ls[k].2.map (·.2)) := by
  have hk' : k < (xss ls).length := by rw [xss, List.length_map]; exact hk
  have e : (xss ls)[k] = ls[k].2.map (·.2) := by simp [xss]
  rw [List.drop_eq_getElem_cons hk', mchk, e]
theorem mchk_end {ls : List LVP} {k : Nat} (hk : k = ls.length) : mchk ((xss ls).drop k) = 0 := by
  subst hk
  rw [List.drop_of_length_le (by rw [xss, List.length_map]; exact Nat.le_refl _)]
  rfl
/-- sorted, as the list of what is said -/
theorem sorted_list {d d' : Array VP} {sz : Nat} (hs : d.size = sz) (hp : PermIn 0 sz d d') (ho : SortedIn (ltOf cfP) 0 sz d') : ∃ P : List VP, P = d'.toList ∧ P.Perm d.toList ∧ ∀ i j, ∀ hij : i < j, ∀ h : j < P.length, ltOf cmpV (P[j]).1 (P[i]'(Nat.lt_trans hij h)).1 = false := by
  obtain ⟨h1, _, h3⟩ := hp
  refine ⟨d'.toList, rfl, ?_, fun i j hij h => ?_⟩
  · have e1 : d'.extract 0 sz = d' := by rw [← hs, ← h1]; simp
    have e2 : d.extract 0 sz = d := by rw [← hs]; simp
    rw [e1, e2] at h3
    exact h3
  · rw [Array.length_toList] at h
    have := ho i j (Nat.zero_le _) hij (by omega)
    have ei : d'[i]! = d'.toList[i]'(by rw [Array.length_toList]; omega) := by simp [show i < d'.size by omega]
    have ej : d'[j]! = d'.toList[j]'(by rw [Array.length_toList]; omega) := by simp [show j < d'.size by omega]
    rw [ei, ej] at this
    exact this

set_option maxRecDepth 1000000 in
set_option maxHeartbeats 2000000 in
theorem merge_any (v : Value) (ls : List LVP) (w : World) (hv : RdLL w (· < w.heap.size) v ls) (hn : (allP ls).length ≤ 1000000) :
    Calls Try.prog 10 #[v] w (MergeOut (xss ls) w) := by
  obtain ⟨A, c, rfl, hc1, hc2, hc3⟩ := hv.1.open_
  unfold maxLen at hc2
  have KCC := fun W (hb : Below w.heap.size w W) => concat_any _ ls W (hv.below hb) (by omega)
  have HVS := Lib.hid hv
  have HNN := Lib.hid hn
  have HKC := Lib.hid KCC
  clear hv hn KCC
  go_enter Try.func10, Try.ntmps10
  go_wp2_with fail
  go_loopw [11] (fun i wr => ∃ k : Nat, i = .int .i64 (k : Int) ∧ k ≤ ls.length ∧ Hid (mchk ((xss ls).drop k) = mchk (xss ls)) ∧ Below w.heap.size w wr) (fun i _ => ls.length - (intOf i).toNat)
  case atStart => exact ⟨0, rfl, Nat.zero_le _, Lib.hid rfl, Below.refl _ _⟩
  case round =>
    obtain ⟨k, rfl, hk, HI, hB⟩ := hrel
    obtain ⟨wo, rfl⟩ : ∃ wo : World, wo = wr := ⟨_, rfl⟩
    have hsz := hB.size
    by_cases hlt : k < ls.length
    case pos =>
      obtain ⟨b, off, rfl, hF, hcl, hx⟩ := RdLL.at_ (HVS.out.below hB) hlt
      have hst := mchk_step hlt
      rw [HI.out] at hst
      have HST := Lib.hid hst
      clear hst
      generalize ls[k] = p at *
      obtain ⟨pv, ps⟩ := p
      simp only at hcl hx HST
      have KV := check_any pv ps wo hx
      obtain ⟨Ap, cp, rfl, y1, y2, y3⟩ := hx.1.open_
      clear hx y3 y2
      obtain ⟨ce, hce⟩ : ∃ ce, ce = chkFrom none (ps.map (·.2)) := ⟨_, rfl⟩
      rw [← hce] at KV HST
      clear hce
      go_wp2_with fail
      (with_reducible refine KV.mono ?_)
      rintro _ w2 ⟨rfl, hb2⟩
      have hB2 : Below w.heap.size w w2 := hB.trans (hb2.mono hsz)
      by_cases h0 : ce = 0
      case pos =>
        subst h0
        have HN : Hid (mchk ((xss ls).drop (k + 1)) = mchk (xss ls)) := Lib.hid (by rw [HST.out]; exact (if_pos rfl).symm)
        go_wp2_with fail
        go_roundw
        case rel => exact ⟨k + 1, by go_num, by omega, HN, hB2⟩
        case measure => simp [intOf]; omega
      case neg =>
        have HN : Hid (mchk (xss ls) = ce ∧ ce ≠ 0) := Lib.hid ⟨by rw [HST.out]; exact if_neg h0, h0⟩
        go_wp2_with fail
        all_goals first | (exfalso; exact HN.out.2 (by assumption)) | skip
        go_ret2
        exact MergeOut.err rfl hB2 ⟨fun _ => ⟨HN.out.1.symm, rfl⟩, fun h => absurd (HN.out.1.symm.trans h) HN.out.2⟩
    case neg =>
      have hke : k = ls.length := by omega
      have H0 : Hid (mchk (xss ls) = 0) := Lib.hid (by rw [← HI.out]; exact mchk_end hke)
      clear HI hlt
      go_wp2_with fail
      (with_reducible refine (HKC.out wo hB).mono ?_)
      rintro _ wc ⟨u, rfl, hO, hbc⟩
      have hBc : Below w.heap.size w wc := hB.trans (hbc.mono hsz)
      have hall : RdVs wc (· < w.heap.size) u (allP ls) → True := fun _ => trivial
      have hvers : ∀ p ∈ allP ls, VerIs wc (· < w.heap.size) p.1 p.2 := fun p hp => by
        obtain ⟨q, hq, hpq⟩ := List.mem_flatMap.1 hp
        exact ((HVS.out.2 q hq).2 p hpq).keep (Keeps.below hBc)
      have HV := Lib.hid hvers
      have hvl : ∀ p ∈ allP ls, validVer p.2 = true := fun p hp => mchk_valid H0.out _ (by rw [xss_flat]; exact List.mem_map.2 ⟨p, hp, rfl⟩)
      have HVL := Lib.hid hvl
      have HFL := Lib.hid (xss_flat ls)
      clear hall hvers hvl HKC
      generalize allP ls = ps at *
      rcases hO.2 with ⟨rfl, hps0⟩ | ⟨g, cap, cur, rfl, hBg, hg, hnc, hcm, hcs, htake⟩
      case inl =>
        obtain rfl : ps = [] := List.eq_nil_of_length_eq_zero hps0
        clear hO
        go_wp2_with fail
        (with_reducible refine (sort_nil _).mono ?_)
        rintro _ ws ⟨rfl, hws⟩
        rw [hws]
        clear hws ws
        go_wp2_with fail
        go_loopw [27] (fun i wr2 => i = .int .i64 0 ∧ wr2 = wc) (fun _ _ => 0)
        case atStart => exact ⟨rfl, rfl⟩
        case round =>
          obtain ⟨rfl, hw2⟩ := hrel
          rw [hw2]
          go_wp2_with fail
          go_ret2
          refine ⟨.slice none 0 0, 0, [], rfl, hBc, ⟨Rd.nil _ _ _, fun p hp => by cases hp⟩, fun h => absurd H0.out h, fun _ => .inl ⟨rfl, ?_, List.Pairwise.nil⟩⟩
          rw [HFL.out]; try exact List.Perm.nil
      case inr =>
        have HCM := Lib.hid hcm
        have hgl : g < wc.heap.size := (Array.getElem?_eq_some_iff.1 hg).1
        have hwo : w.heap.size ≤ wo.heap.size := hsz
        have KS := sort_any encP 9 aggV sizeV (fun p => p.1.enc_length) (fun p => p.1.enc_one) cfP cmpB_P swoP g 0 cap ps.length ps.toArray (by simp) wc (own_holdsP hO) hgl (by have := HNN.out; simp; omega)
        clear hO htake hcs
        go_wp2_with fail
        (with_reducible refine KS.mono ?_)
        rintro _ ws ⟨rfl, d', hp, ho, hH, hCs⟩
        obtain ⟨P, hPP, hperm, hsort⟩ := sorted_list (by simp) hp ho
        have hrd := holdsP_rdG hH
        rw [← hPP] at hrd
        clear hPP
        have hlen : P.length = ps.length := hperm.length_eq
        have hss := hCs.size
        have hBs : Below w.heap.size w ws := hBc.trans (hCs.below (by omega) (fun i hi => by subst hi; omega))
        have hvP : ∀ p ∈ P, VerIs ws (· < w.heap.size) p.1 p.2 ∧ validVer p.2 = true := fun p hp' =>
          ⟨(HV.out p (hperm.subset hp')).keep (fun b hb => hCs.block b (by have := hBc.size; omega) (by omega)), HVL.out p (hperm.subset hp')⟩
        have HVP := Lib.hid hvP
        have HPM := Lib.hid hperm
        have HSO := Lib.hid hsort
        clear hp ho hH hvP hperm hsort HV HVL KS hg hcm
        go_wp2_with fail
        go_loopw [27] (fun vi wr2 => ∃ (i : Nat) (Q : List VP), vi = .int .i64 (i : Int) ∧ i ≤ ps.length ∧ Hid (Q.map (·.2) = P.map (·.2)) ∧ Hid (RdG wr2 g Q) ∧ Hid (∀ p ∈ Q, VerIs wr2 (fun b => b < wr2.heap.size ∧ b ≠ g) p.1 p.2) ∧ Hid (((P.map (·.2)).take i).Pairwise ltVP) ∧ Below w.heap.size w wr2 ∧ g < wr2.heap.size) (fun vi _ => ps.length - (intOf vi).toNat)
        case atStart => exact ⟨0, P, rfl, Nat.zero_le _, Lib.hid rfl, Lib.hid hrd, Lib.hid (fun p hp => ((HVP.out p hp).1).wide (fun b (hb : b < w.heap.size) => ⟨by have := hBs.size; omega, by omega⟩)), Lib.hid (by simp), hBs, by omega⟩
        case round =>
          obtain ⟨i, Q, rfl, hi, HQ, HR, HX, HPW, hB2, hgw⟩ := hrel
          obtain ⟨wq, rfl⟩ : ∃ wq : World, wq = wr := ⟨_, rfl⟩
          have hsq := hB2.size
          have hQl : Q.length = ps.length := by have := congrArg List.length HQ.out; rw [List.length_map, List.length_map] at this; omega
          by_cases hlt2 : i < ps.length
          case neg =>
            have hie : i = ps.length := by omega
            go_wp2_with fail
            go_ret2
            refine ⟨.slice (some ⟨g, 0, none⟩) ps.length cap, 0, Q, rfl, hB2, ⟨⟨cellsP_length Q, _, cap, by rw [hQl], by omega, HCM.out, by simp, fun _ => ⟨⟨g, 0, none⟩, rfl, hgw, fun j u hu => by
              have h1 := (HR.out j u hu).1
              have e : (⟨g, 0, none⟩ : Addr).add j = ⟨g, j, none⟩ := by unfold Addr.add; split <;> simp_all
              rw [e]; exact h1⟩⟩, fun p hp => (HX.out p hp).wide fun b hb => hb.1⟩, fun h => absurd H0.out h, fun _ => .inl ⟨rfl, ?_, ?_⟩⟩
            · rw [HFL.out, HQ.out]; exact HPM.out.map _
            · have h := HPW.out
              rw [hie, List.take_of_length_le (by rw [List.length_map]; omega)] at h
              rw [HQ.out]; exact h
          case pos =>
            have hiQ : i < Q.length := by omega
            have hmem := List.getElem_mem hiQ
            have hx := HX.out _ hmem
            have hcl : ∀ j u, j < 9 → Q[i].1.enc[j]? = some u → wq.cell? ⟨g, i * 9 + j, none⟩ = some u ∧ wq.frozen? ⟨g, i * 9 + j, none⟩ = false := fun j u hj hu => HR.out (i * 9 + j) u (by rw [cellsP_get hiQ hj]; exact hu)
            have hset : ∀ u : Value, ∀ W, RdG W g Q → ∀ r' : RV, r'.enc = (Q[i].1.enc).set 2 u → RdG (W.setCell ⟨g, i * 9 + 2, none⟩ u) g (Q.set i (r', Q[i].2)) := fun u W h r' he => h.set hiQ _ u he
            have hq2 : ∀ r' : RV, (Q.set i (r', Q[i].2)).map (·.2) = P.map (·.2) := fun r' => by
              rw [← HQ.out, List.map_set]
              have h7 : (Q.map (·.2))[i]'(by rw [List.length_map]; exact hiQ) = Q[i].2 := by simp
              rw [show ((r', Q[i].2) : VP).2 = (Q.map (·.2))[i]'(by rw [List.length_map]; exact hiQ) from h7.symm]
              exact List.set_getElem_self _
            have hpi : (P.map (·.2))[i]'(by rw [List.length_map]; omega) = Q[i].2 := by
              have : (Q.map (·.2))[i]'(by rw [List.length_map]; exact hiQ) = Q[i].2 := by simp
              rw [← this]; congr 1; exact HQ.out.symm
            have hvq : validVer Q[i].2 = true := by
              rw [← hpi, List.getElem_map]
              exact (HVP.out _ (List.getElem_mem (by omega))).2
            have hqm : ∀ r' : RV, ∀ p ∈ Q.set i (r', Q[i].2), p ∈ Q ∨ p = (r', Q[i].2) := fun r' p hp => List.mem_or_eq_of_mem_set hp
            have hprev : 0 < i → ∃ q : VP, q ∈ Q ∧ q.2 = (P.map (·.2))[i - 1]'(by rw [List.length_map]; omega) ∧ (∀ j u, j < 9 → q.1.enc[j]? = some u → wq.cell? ⟨g, (i - 1) * 9 + j, none⟩ = some u) := fun h0 => by
              have hi1 : i - 1 < Q.length := by omega
              refine ⟨Q[i - 1], List.getElem_mem hi1, ?_, fun j u hj hu => (HR.out ((i - 1) * 9 + j) u (by rw [cellsP_get hi1 hj]; exact hu)).1⟩
              have : (Q.map (·.2))[i - 1]'(by rw [List.length_map]; exact hi1) = Q[i - 1].2 := by simp
              rw [← this]; congr 1 <;> exact HQ.out
            have hso : ∀ h0 : 0 < i, ltV ((P.map (·.2))[i]'(by rw [List.length_map]; omega)) ((P.map (·.2))[i - 1]'(by rw [List.length_map]; omega)) = false := fun h0 => by
              have h1 := HSO.out (i - 1) i (by omega) (by omega)
              rw [List.getElem_map, List.getElem_map]
              rw [← VerIs.lt (HVP.out _ (List.getElem_mem (show i < P.length by omega))).1 (HVP.out _ (List.getElem_mem (show i - 1 < P.length by omega))).1]
              exact h1
            have hpn : (∀ h0 : 0 < i, ltVP ((P.map (·.2))[i - 1]'(by rw [List.length_map]; omega)) ((P.map (·.2))[i]'(by rw [List.length_map]; omega))) → ((P.map (·.2)).take (i + 1)).Pairwise ltVP := fun h => pair_snoc (by rw [List.length_map]; omega) HPW.out h
            have hbadp : ∀ h0 : 0 < i, ltV ((P.map (·.2))[i - 1]'(by rw [List.length_map]; omega)) ((P.map (·.2))[i]'(by rw [List.length_map]; omega)) = false → MSpec (xss ls) 10 [] := fun h0 hl => by
              refine ⟨fun h => absurd H0.out h, fun _ => .inr ⟨rfl, rfl, fun hpw => ?_⟩⟩
              rw [HFL.out] at hpw
              have h2 := (List.Perm.pairwise_iff (fun {x y} (h : cmpb x y) => Or.symm h) (HPM.out.map (·.2))).2 hpw
              have h3 := (List.pairwise_iff_getElem.1 h2) (i - 1) i (by rw [List.length_map]; omega) (by rw [List.length_map]; omega) (by omega)
              rcases h3 with h3 | h3
              · rw [hl] at h3; cases h3
              · rw [hso h0] at h3; cases h3
            rw [hpi] at hso hpn hbadp
            have HQM := Lib.hid hqm
            have HSE := Lib.hid hset
            have HQ2 := Lib.hid hq2
            have HPV := Lib.hid hprev
            have HPN := Lib.hid hpn
            have HBD := Lib.hid hbadp
            have HSS := Lib.hid hso
            clear hprev hpn hbadp hso hq2 hset hqm hpi hmem
            generalize Q[i] = p at *
            obtain ⟨⟨x1, x2, xA, xn, xc, x3, x4, x5, x6, x7, x8⟩, x⟩ := p
            simp only at hcl hx hvq HSE HQ2 HPN HBD HSS
            have g0 : wq.cell? ⟨g, i * 9, none⟩ = some (.int .i64 x1) := (hcl 0 _ (by decide) rfl).1
            have g1 : wq.cell? ⟨g, i * 9 + 1, none⟩ = some (.int .i64 x2) := (hcl 1 _ (by decide) rfl).1
            have g2 : wq.cell? ⟨g, i * 9 + 2, none⟩ = some (.slice xA xn xc) := (hcl 2 _ (by decide) rfl).1
            have g3 : wq.cell? ⟨g, i * 9 + 3, none⟩ = some (.int .i64 x3) := (hcl 3 _ (by decide) rfl).1
            have g4 : wq.cell? ⟨g, i * 9 + 4, none⟩ = some (.int .i64 x4) := (hcl 4 _ (by decide) rfl).1
            have g5 : wq.cell? ⟨g, i * 9 + 5, none⟩ = some (.int .i64 x5) := (hcl 5 _ (by decide) rfl).1
            have g6 : wq.cell? ⟨g, i * 9 + 6, none⟩ = some (.int .i64 x6) := (hcl 6 _ (by decide) rfl).1
            have g7 : wq.cell? ⟨g, i * 9 + 7, none⟩ = some (.int .i64 x7) := (hcl 7 _ (by decide) rfl).1
            have g8 : wq.cell? ⟨g, i * 9 + 8, none⟩ = some (.int .i64 x8) := (hcl 8 _ (by decide) rfl).1
            have hfz : wq.frozen? ⟨g, i * 9 + 2, none⟩ = false := (hcl 2 _ (by decide) rfl).2
            have HX0 := Lib.hid hx
            have HVQ := Lib.hid hvq
            clear hcl hx hvq
            have hxl : (xn : Nat) = x.row.length ∧ x.row.length ≤ 12 := by
              obtain ⟨A1, c1, e1, _⟩ := HX0.out.row.open_
              injection e1 with e1 e2 e3
              refine ⟨e2, ?_⟩
              have := HVQ.out
              unfold validVer validRowF at this
              simp only [Bool.and_eq_true, decide_eq_true_eq] at this
              exact this.2.2.2.1.2
            have HXL := Lib.hid hxl
            have HLT := Lib.hid hlt2
            clear hxl
            by_cases h0 : i = 0
            case pos =>
              subst h0
              have g2' : wq.cell? ⟨g, 2, none⟩ = some (.slice xA xn xc) := by simpa using g2
              have hfz' : wq.frozen? ⟨g, 2, none⟩ = false := by simpa using hfz
              clear g0 g1 g2 g3 g4 g5 g6 g7 g8 hfz
              go_wp2_with fail
              refine wp_region_noPanic ?_
              refine wp_region_held_drew (S := (fun w' => Below wq.heap.size wq w')) (by kernel_rfl) ?_ (fun hHeld => ?_)
              · exact (Below.refl _ _).drew
              refine heldTake 0 (some 30) (v := ?_) rfl rfl (by kernel_rfl) (by kernel_rfl) (by kernel_rfl) (by rfl) hHeld (fun _ _ _ h => h) ?_ ?_
              rotate_left
              · intro w' hSw; (try dsimp only at hSw); go_simp <;> with_reducible rfl
              simp only [Act.put, List.setIfInBounds_toArray, List.set_cons_zero, List.set_cons_succ]
              refine heldTake 1 (some 31) (v := ?_) rfl rfl (by kernel_rfl) (by kernel_rfl) (by kernel_rfl) (by rfl) hHeld (fun _ _ _ h => h) ?_ ?_
              rotate_left
              · intro w' hSw; (try dsimp only at hSw); go_simp <;> with_reducible rfl
              simp only [Act.put, List.setIfInBounds_toArray, List.set_cons_zero, List.set_cons_succ]
              refine heldTake 2 (some 32) (v := ?_) rfl rfl (by kernel_rfl) (by kernel_rfl) (by kernel_rfl) (by rfl) hHeld (fun _ _ _ h => h) ?_ ?_
              rotate_left
              · intro w' hSw; (try dsimp only at hSw); go_simp <;> with_reducible rfl
              simp only [Act.put, List.setIfInBounds_toArray, List.set_cons_zero, List.set_cons_succ]
              refine heldSkip 3 (some 33) rfl rfl (by kernel_rfl) (by kernel_rfl) (by kernel_rfl) (by rfl) hHeld (fun _ _ _ h => h) ?_
              simp only [Act.put, List.setIfInBounds_toArray, List.set_cons_zero, List.set_cons_succ]
              refine heldSkip 4 (some 34) rfl rfl (by kernel_rfl) (by kernel_rfl) (by kernel_rfl) (by rfl) hHeld (fun _ _ _ h => h) ?_
              simp only [Act.put, List.setIfInBounds_toArray, List.set_cons_zero, List.set_cons_succ]
              refine heldSkip 5 (some 35) rfl rfl (by kernel_rfl) (by kernel_rfl) (by kernel_rfl) (by rfl) hHeld (fun _ _ _ h => h) ?_
              simp only [Act.put, List.setIfInBounds_toArray, List.set_cons_zero, List.set_cons_succ]
              refine heldSkip 6 (some 36) rfl rfl (by kernel_rfl) (by kernel_rfl) (by kernel_rfl) (by rfl) hHeld (fun _ _ _ h => h) ?_
              simp only [Act.put, List.setIfInBounds_toArray, List.set_cons_zero, List.set_cons_succ]
              refine heldSkip 7 (some 37) rfl rfl (by kernel_rfl) (by kernel_rfl) (by kernel_rfl) (by rfl) hHeld (fun _ _ _ h => h) ?_
              simp only [Act.put, List.setIfInBounds_toArray, List.set_cons_zero, List.set_cons_succ]
              refine heldSkip 8 (some 38) rfl rfl (by kernel_rfl) (by kernel_rfl) (by kernel_rfl) (by rfl) hHeld (fun _ _ _ h => h) ?_
              simp only [Act.put, List.setIfInBounds_toArray, List.set_cons_zero, List.set_cons_succ]
              refine heldSkip 9 (some 39) rfl rfl (by kernel_rfl) (by kernel_rfl) (by kernel_rfl) (by rfl) hHeld (fun _ _ _ h => h) ?_
              simp only [Act.put, List.setIfInBounds_toArray, List.set_cons_zero, List.set_cons_succ]
              refine heldSkip 10 (some 40) rfl rfl (by kernel_rfl) (by kernel_rfl) (by kernel_rfl) (by rfl) hHeld (fun _ _ _ h => h) ?_
              simp only [Act.put, List.setIfInBounds_toArray, List.set_cons_zero, List.set_cons_succ]
              refine heldSkip 11 (some 41) rfl rfl (by kernel_rfl) (by kernel_rfl) (by kernel_rfl) (by rfl) hHeld (fun _ _ _ h => h) ?_
              simp only [Act.put, List.setIfInBounds_toArray, List.set_cons_zero, List.set_cons_succ]
              refine heldSkip 12 (some 42) rfl rfl (by kernel_rfl) (by kernel_rfl) (by kernel_rfl) (by rfl) hHeld (fun _ _ _ h => h) ?_
              simp only [Act.put, List.setIfInBounds_toArray, List.set_cons_zero, List.set_cons_succ]
              refine heldSkip 13 (some 43) rfl rfl (by kernel_rfl) (by kernel_rfl) (by kernel_rfl) (by rfl) hHeld (fun _ _ _ h => h) ?_
              simp only [Act.put, List.setIfInBounds_toArray, List.set_cons_zero, List.set_cons_succ]
              refine heldTake 14 (some 44) (v := ?_) rfl rfl (by kernel_rfl) (by kernel_rfl) (by kernel_rfl) (by rfl) hHeld (fun _ _ _ h => h) ?_ ?_
              rotate_left
              · intro w' hSw; (try dsimp only at hSw); go_simp <;> with_reducible rfl
              simp only [Act.put, List.setIfInBounds_toArray, List.set_cons_zero, List.set_cons_succ]
              refine wpAnyH_done (by kernel_rfl) ?_ _
              refine NoPanic.normal ?_
              clear hHeld
              have hbq : Below wq.heap.size wq wq.drew := (Below.refl _ _).drew
              have hRw : RdG wq.drew g Q := HR.out.of_block (hbq.block g (by omega))
              have KCL := cloneV_any (.slice xA xn xc) x.row wq.drew (Rd.wide (Rd.keep HX0.out.row (fun b (hb : b < wq.heap.size ∧ b ≠ g) => hbq.block b hb.1)) (fun b hb => by show b < wq.drew.heap.size; have := hbq.size; omega)) (by have := HXL.out.2; omega)
              have gr : wq.drew.cell? ⟨g, 2, none⟩ = some (.slice xA xn xc) := (World.cell?_of_block (hbq.block g (by omega))).trans g2'
              go_wp2_with fail
              (with_reducible refine KCL.mono ?_)
              rintro _ w5 ⟨u5, rfl, hO5, hb5⟩
              have hbq5 : Below wq.heap.size wq w5 := hbq.trans (hb5.mono hbq.size)
              have g5 : w5.cell? ⟨g, 2, none⟩ = some (.slice xA xn xc) := (World.cell?_of_block (hbq5.block g (by omega))).trans g2'
              have f5 : w5.frozen? ⟨g, 2, none⟩ = false := (World.frozen?_of_block (hbq5.block g (by omega))).trans hfz'
              obtain ⟨A5, c5, rfl, m1, m2, m3⟩ := Rd.open_ (Rd.of_own hO5)
              have hR5 : RdG (w5.setCell ⟨g, 2, none⟩ (.slice A5 x.row.length c5)) g (Q.set 0 ((⟨x1, x2, A5, x.row.length, c5, x3, x4, x5, x6, x7, x8⟩ : RV), x)) := by simpa using HSE.out (.slice A5 x.row.length c5) w5 (HR.out.of_block (hbq5.block g (by omega))) (⟨x1, x2, A5, x.row.length, c5, x3, x4, x5, x6, x7, x8⟩ : RV) rfl
              have hX5 : ∀ p ∈ Q.set 0 ((⟨x1, x2, A5, x.row.length, c5, x3, x4, x5, x6, x7, x8⟩ : RV), x), VerIs (w5.setCell ⟨g, 2, none⟩ (.slice A5 x.row.length c5)) (fun b => b < (w5.setCell ⟨g, 2, none⟩ (.slice A5 x.row.length c5)).heap.size ∧ b ≠ g) p.1 p.2 := fun p hp => by
                have hss : (w5.setCell ⟨g, 2, none⟩ (.slice A5 x.row.length c5)).heap.size = w5.heap.size := by simp [World.setCell]
                have hkeep : Keeps (fun b => b < w5.heap.size ∧ b ≠ g) w5 (w5.setCell ⟨g, 2, none⟩ (.slice A5 x.row.length c5)) := fun b hb => Below.heap_setCell _ _ _ _ hb.2
                rw [hss]
                refine VerIs.keep ?_ hkeep
                rcases HQM.out _ p hp with hp | rfl
                · exact ((HX.out p hp).keep (fun b hb => hbq5.block b hb.1)).wide (fun b hb => ⟨by have := hbq5.size; omega, hb.2⟩)
                · have h0 := HX0.out
                  refine ⟨h0.id, h0.sch, h0.vf, h0.vt, h0.sf, h0.st, h0.by_, h0.un, ?_, h0.ok⟩
                  exact Rd.wide (Rd.of_own hO5) (fun b hb => ⟨hb.2, by have := hb.1; have := hbq.size; omega⟩)
              have HR5 := Lib.hid hR5
              have HX5 := Lib.hid hX5
              have hB5 : Below w.heap.size w (w5.setCell ⟨g, 2, none⟩ (.slice A5 x.row.length c5)) := (hB2.trans (hbq5.mono hsq)).setCell (p := ⟨g, 2, none⟩) (by show w.heap.size ≤ g; omega) _
              have hs5 := hbq5.size
              clear hR5 hX5 m3 m2 hRw KCL gr
              have hnn : ps.length ≤ 1000000 := HNN.out
              have hlt3 : 0 < ps.length := HLT.out
              go_wp2_with fail
              go_roundw
              case rel => exact ⟨1, Q.set 0 ((⟨x1, x2, A5, x.row.length, c5, x3, x4, x5, x6, x7, x8⟩ : RV), x), by first | rfl | go_num, by have := HLT.out; omega, Lib.hid (HQ2.out _), HR5, HX5, Lib.hid (HPN.out (fun h => absurd h (by omega))), hB5, by simp [World.setCell]; omega⟩
              case measure => have := HLT.out; simp [intOf]; omega
            case neg =>
              have hi0 : 0 < i := by omega
              obtain ⟨q, hq0, hq1, hq2⟩ := HPV.out hi0
              have hxq := HX.out q hq0
              obtain ⟨⟨y1, y2, yA, yn, yc, y3, y4, y5, y6, y7, y8⟩, y⟩ := q
              simp only at hq1 hq2 hxq
              have hll := VerIs.lt hxq HX0.out
              have hlr := VerIs.lt HX0.out hxq
              obtain ⟨cv, hcv⟩ : ∃ cv, cv = cmpV (⟨y1, y2, yA, yn, yc, y3, y4, y5, y6, y7, y8⟩ : RV) (⟨x1, x2, xA, xn, xc, x3, x4, x5, x6, x7, x8⟩ : RV) := ⟨_, rfl⟩
              have KC : ∀ W, Calls Try.prog 17 #[.agg #[.int .i64 y1, .int .i64 y2, .slice yA yn yc, .int .i64 y3, .int .i64 y4, .int .i64 y5, .int .i64 y6, .int .i64 y7, .int .i64 y8], .agg #[.int .i64 x1, .int .i64 x2, .slice xA xn xc, .int .i64 x3, .int .i64 x4, .int .i64 x5, .int .i64 x6, .int .i64 x7, .int .i64 x8]] W fun e w' => e = .returned (.int .i64 cv) ∧ Below W.heap.size W w' := fun W => by rw [hcv]; exact order_any (⟨y1, y2, yA, yn, yc, y3, y4, y5, y6, y7, y8⟩ : RV) (⟨x1, x2, xA, xn, xc, x3, x4, x5, x6, x7, x8⟩ : RV) W
              have HC0 : Hid (cv = 0 → ltV y x = false) := Lib.hid (fun h => by
                rw [← hll, ltOf_cmpV_no, ← cmpV_neg, ← hcv]; omega)
              have HC1 : Hid (cv ≠ 0 → ltV x y = false → ltVP y x) := Lib.hid (fun h hl => by
                unfold ltVP
                rw [← hll, ltOf_cmpV]
                rw [← hlr, ltOf_cmpV_no] at hl
                rw [hcv, Ne, cmpV_zero] at h
                unfold lexV at *
                simp only at h hl ⊢
                omega)
              have HQ1 := Lib.hid hq1
              have PC : Hid (∀ j u, j < 9 → [.int .i64 y1, .int .i64 y2, .slice yA yn yc, .int .i64 y3, .int .i64 y4, .int .i64 y5, .int .i64 y6, .int .i64 y7, .int .i64 y8][j]? = some u → wq.cell? ⟨g, (i - 1) * 9 + j, none⟩ = some u) := Lib.hid (fun j u hj hu => hq2 j u hj hu)
              have HHX := Lib.hid hxq
              clear hq1 hq2 hll hlr hcv hxq
              obtain ⟨z, hz⟩ : ∃ z, z = i - 1 := ⟨_, rfl⟩
              have HZ := Lib.hid hz
              rw [← hz] at PC
              have ew : IntKind.i64.wrap ((i : Int) - 1) = ((z : Nat) : Int) := by have := HNN.out; rw [IntKind.wrap_i64]; omega
              have hil : (z : Int) < (ps.length : Int) := by omega
              have hiz : (i : Int) < (ps.length : Int) := by omega
              have hip : (0 : Int) < (i : Int) := by omega
              have GX : Hid (∀ w', Below wq.heap.size wq w' → w'.cell? ⟨g, i * 9, none⟩ = some (.int .i64 x1) ∧ w'.cell? ⟨g, i * 9 + 1, none⟩ = some (.int .i64 x2) ∧ w'.cell? ⟨g, i * 9 + 2, none⟩ = some (.slice xA xn xc) ∧ w'.cell? ⟨g, i * 9 + 3, none⟩ = some (.int .i64 x3) ∧ w'.cell? ⟨g, i * 9 + 4, none⟩ = some (.int .i64 x4) ∧ w'.cell? ⟨g, i * 9 + 5, none⟩ = some (.int .i64 x5) ∧ w'.cell? ⟨g, i * 9 + 6, none⟩ = some (.int .i64 x6) ∧ w'.cell? ⟨g, i * 9 + 7, none⟩ = some (.int .i64 x7) ∧ w'.cell? ⟨g, i * 9 + 8, none⟩ = some (.int .i64 x8)) := Lib.hid (fun w' h => ⟨(World.cell?_of_block (h.block g hgw)).trans g0, (World.cell?_of_block (h.block g hgw)).trans g1, (World.cell?_of_block (h.block g hgw)).trans g2, (World.cell?_of_block (h.block g hgw)).trans g3, (World.cell?_of_block (h.block g hgw)).trans g4, (World.cell?_of_block (h.block g hgw)).trans g5, (World.cell?_of_block (h.block g hgw)).trans g6, (World.cell?_of_block (h.block g hgw)).trans g7, (World.cell?_of_block (h.block g hgw)).trans g8⟩)
              have GY : Hid (∀ w', Below wq.heap.size wq w' → w'.cell? ⟨g, z * 9, none⟩ = some (.int .i64 y1) ∧ w'.cell? ⟨g, z * 9 + 1, none⟩ = some (.int .i64 y2) ∧ w'.cell? ⟨g, z * 9 + 2, none⟩ = some (.slice yA yn yc) ∧ w'.cell? ⟨g, z * 9 + 3, none⟩ = some (.int .i64 y3) ∧ w'.cell? ⟨g, z * 9 + 4, none⟩ = some (.int .i64 y4) ∧ w'.cell? ⟨g, z * 9 + 5, none⟩ = some (.int .i64 y5) ∧ w'.cell? ⟨g, z * 9 + 6, none⟩ = some (.int .i64 y6) ∧ w'.cell? ⟨g, z * 9 + 7, none⟩ = some (.int .i64 y7) ∧ w'.cell? ⟨g, z * 9 + 8, none⟩ = some (.int .i64 y8)) := Lib.hid (fun w' h => ⟨(World.cell?_of_block (h.block g hgw)).trans (PC.out 0 _ (by decide) rfl), (World.cell?_of_block (h.block g hgw)).trans (PC.out 1 _ (by decide) rfl), (World.cell?_of_block (h.block g hgw)).trans (PC.out 2 _ (by decide) rfl), (World.cell?_of_block (h.block g hgw)).trans (PC.out 3 _ (by decide) rfl), (World.cell?_of_block (h.block g hgw)).trans (PC.out 4 _ (by decide) rfl), (World.cell?_of_block (h.block g hgw)).trans (PC.out 5 _ (by decide) rfl), (World.cell?_of_block (h.block g hgw)).trans (PC.out 6 _ (by decide) rfl), (World.cell?_of_block (h.block g hgw)).trans (PC.out 7 _ (by decide) rfl), (World.cell?_of_block (h.block g hgw)).trans (PC.out 8 _ (by decide) rfl)⟩)
              clear hz
              by_cases hc0 : cv = 0
              case pos =>
                subst hc0
                go_wp2_with fail
                refine wp_region_noPanic ?_
                refine wp_region_held_drew (S := (fun w' => Below wq.heap.size wq w')) (by kernel_rfl) ?_ (fun hHeld => ?_)
                · exact (Below.refl _ _).drew
                refine heldTake 0 (some 30) (v := ?_) rfl rfl (by kernel_rfl) (by kernel_rfl) (by kernel_rfl) (by rfl) hHeld (fun _ _ _ h => h) ?_ ?_
                rotate_left
                · intro w' hSw; (try dsimp only at hSw); go_simp <;> with_reducible rfl
                simp only [Act.put, List.setIfInBounds_toArray, List.set_cons_zero, List.set_cons_succ]
                refine heldTake 1 (some 31) (v := ?_) rfl rfl (by kernel_rfl) (by kernel_rfl) (by kernel_rfl) (by rfl) hHeld (fun _ _ _ h => h) ?_ ?_
                rotate_left
                · intro w' hSw; (try dsimp only at hSw); go_simp <;> with_reducible rfl
                simp only [Act.put, List.setIfInBounds_toArray, List.set_cons_zero, List.set_cons_succ]
                refine heldTake 2 (some 32) (v := ?_) rfl rfl (by kernel_rfl) (by kernel_rfl) (by kernel_rfl) (by rfl) hHeld (fun _ _ _ h => h) ?_ ?_
                rotate_left
                · intro w' hSw; (try dsimp only at hSw); go_simp <;> with_reducible rfl
                simp only [Act.put, List.setIfInBounds_toArray, List.set_cons_zero, List.set_cons_succ]
                refine heldTake 3 (some 33) (v := ?_) rfl rfl (by kernel_rfl) (by kernel_rfl) (by kernel_rfl) (by rfl) hHeld (fun _ _ _ h => h) ?_ ?_
                rotate_left
                · intro w' hSw; (try dsimp only at hSw); go_simp <;> with_reducible rfl
                simp only [Act.put, List.setIfInBounds_toArray, List.set_cons_zero, List.set_cons_succ]
                refine heldTake 4 (some 34) (v := ?_) rfl rfl (by kernel_rfl) (by kernel_rfl) (by kernel_rfl) (by rfl) hHeld (fun _ _ _ h => h) ?_ ?_
                rotate_left
                · intro w' hSw; (try dsimp only at hSw); go_simp <;> with_reducible rfl
                simp only [Act.put, List.setIfInBounds_toArray, List.set_cons_zero, List.set_cons_succ]
                refine heldTake 5 (some 35) (v := ?_) rfl rfl (by kernel_rfl) (by kernel_rfl) (by kernel_rfl) (by rfl) hHeld (fun _ _ _ h => h) ?_ ?_
                rotate_left
                · intro w' hSw; (try dsimp only at hSw); go_simp <;> with_reducible rfl
                simp only [Act.put, List.setIfInBounds_toArray, List.set_cons_zero, List.set_cons_succ]
                refine heldTake 6 (some 36) (v := ?_) rfl rfl (by kernel_rfl) (by kernel_rfl) (by kernel_rfl) (by rfl) hHeld (fun _ _ _ h => h) ?_ ?_
                rotate_left
                · intro w' hSw; (try dsimp only at hSw); go_simp <;> with_reducible rfl
                simp only [Act.put, List.setIfInBounds_toArray, List.set_cons_zero, List.set_cons_succ]
                refine heldTake 7 (some 37) (v := ?_) rfl rfl (by kernel_rfl) (by kernel_rfl) (by kernel_rfl) (by rfl) hHeld (fun _ _ _ h => h) ?_ ?_
                rotate_left
                · intro w' hSw; (try dsimp only at hSw); obtain ⟨e0, e1, e2, e3, e4, e5, e6, e7, e8⟩ := GY.out w' hSw; go_simp <;> with_reducible rfl
                simp only [Act.put, List.setIfInBounds_toArray, List.set_cons_zero, List.set_cons_succ]
                refine heldTake 8 (some 38) (v := ?_) rfl rfl (by kernel_rfl) (by kernel_rfl) (by kernel_rfl) (by rfl) hHeld (fun _ _ _ h => h) ?_ ?_
                rotate_left
                · intro w' hSw; (try dsimp only at hSw); go_simp <;> with_reducible rfl
                simp only [Act.put, List.setIfInBounds_toArray, List.set_cons_zero, List.set_cons_succ]
                refine heldTake 9 (some 39) (v := ?_) rfl rfl (by kernel_rfl) (by kernel_rfl) (by kernel_rfl) (by rfl) hHeld (fun _ _ _ h => h) ?_ ?_
                rotate_left
                · intro w' hSw; (try dsimp only at hSw); go_simp <;> with_reducible rfl
                simp only [Act.put, List.setIfInBounds_toArray, List.set_cons_zero, List.set_cons_succ]
                refine heldTake 10 (some 40) (v := ?_) rfl rfl (by kernel_rfl) (by kernel_rfl) (by kernel_rfl) (by rfl) hHeld (fun _ _ _ h => h) ?_ ?_
                rotate_left
                · intro w' hSw; (try dsimp only at hSw); go_simp <;> with_reducible rfl
                simp only [Act.put, List.setIfInBounds_toArray, List.set_cons_zero, List.set_cons_succ]
                refine heldTake 11 (some 41) (v := ?_) rfl rfl (by kernel_rfl) (by kernel_rfl) (by kernel_rfl) (by rfl) hHeld (fun _ _ _ h => h) ?_ ?_
                rotate_left
                · intro w' hSw; (try dsimp only at hSw); obtain ⟨e0, e1, e2, e3, e4, e5, e6, e7, e8⟩ := GX.out w' hSw; go_simp <;> with_reducible rfl
                simp only [Act.put, List.setIfInBounds_toArray, List.set_cons_zero, List.set_cons_succ]
                refine heldCall 12 (some 42) (f := ?_) (args := ?_) rfl rfl (by kernel_rfl) (by rfl) ?_ ?_
                rotate_left 2
                · go_simp <;> first | (constructor <;> with_reducible rfl) | with_reducible rfl
                (with_reducible refine (KC _).mono ?_)
                rintro _ w3 ⟨rfl, hb3'⟩
                have hb3 : Below wq.heap.size wq w3 := (Below.undrew hb3')
                refine ⟨_, rfl, keepAnd ?_ (fun hNew => ?_)⟩
                · exact hb3
                clear hHeld
                have hHeld := hNew
                clear hNew
                simp only [Act.put, List.setIfInBounds_toArray, List.set_cons_zero, List.set_cons_succ]
                refine heldTake 13 (some 43) (v := ?_) rfl rfl (by kernel_rfl) (by kernel_rfl) (by kernel_rfl) (by rfl) hHeld (fun _ _ _ h => h) ?_ ?_
                rotate_left
                · intro w' hSw; (try dsimp only at hSw); go_simp <;> with_reducible rfl
                simp only [Act.put, List.setIfInBounds_toArray, List.set_cons_zero, List.set_cons_succ]
                refine heldTake 14 (some 44) (v := ?_) rfl rfl (by kernel_rfl) (by kernel_rfl) (by kernel_rfl) (by rfl) hHeld (fun _ _ _ h => h) ?_ ?_
                rotate_left
                · intro w' hSw; (try dsimp only at hSw); go_simp <;> with_reducible rfl
                simp only [Act.put, List.setIfInBounds_toArray, List.set_cons_zero, List.set_cons_succ]
                refine wpAnyH_done (by kernel_rfl) ?_ _
                refine NoPanic.normal ?_
                clear hHeld
                go_wp2_with fail
                go_ret2
                exact MergeOut.err rfl (hB2.trans (hb3.mono hsq)) (HBD.out hi0 (by rw [← HQ1.out]; exact HC0.out (by first | rfl | trivial)))
              case neg =>
                have HNE := Lib.hid hc0
                go_wp2_with fail
                refine wp_region_noPanic ?_
                refine wp_region_held_drew (S := (fun w' => Below wq.heap.size wq w')) (by kernel_rfl) ?_ (fun hHeld => ?_)
                · exact (Below.refl _ _).drew
                refine heldTake 0 (some 30) (v := ?_) rfl rfl (by kernel_rfl) (by kernel_rfl) (by kernel_rfl) (by rfl) hHeld (fun _ _ _ h => h) ?_ ?_
                rotate_left
                · intro w' hSw; (try dsimp only at hSw); go_simp <;> with_reducible rfl
                simp only [Act.put, List.setIfInBounds_toArray, List.set_cons_zero, List.set_cons_succ]
                refine heldTake 1 (some 31) (v := ?_) rfl rfl (by kernel_rfl) (by kernel_rfl) (by kernel_rfl) (by rfl) hHeld (fun _ _ _ h => h) ?_ ?_
                rotate_left
                · intro w' hSw; (try dsimp only at hSw); go_simp <;> with_reducible rfl
                simp only [Act.put, List.setIfInBounds_toArray, List.set_cons_zero, List.set_cons_succ]
                refine heldTake 2 (some 32) (v := ?_) rfl rfl (by kernel_rfl) (by kernel_rfl) (by kernel_rfl) (by rfl) hHeld (fun _ _ _ h => h) ?_ ?_
                rotate_left
                · intro w' hSw; (try dsimp only at hSw); go_simp <;> with_reducible rfl
                simp only [Act.put, List.setIfInBounds_toArray, List.set_cons_zero, List.set_cons_succ]
                refine heldTake 3 (some 33) (v := ?_) rfl rfl (by kernel_rfl) (by kernel_rfl) (by kernel_rfl) (by rfl) hHeld (fun _ _ _ h => h) ?_ ?_
                rotate_left
                · intro w' hSw; (try dsimp only at hSw); go_simp <;> with_reducible rfl
                simp only [Act.put, List.setIfInBounds_toArray, List.set_cons_zero, List.set_cons_succ]
                refine heldTake 4 (some 34) (v := ?_) rfl rfl (by kernel_rfl) (by kernel_rfl) (by kernel_rfl) (by rfl) hHeld (fun _ _ _ h => h) ?_ ?_
                rotate_left
                · intro w' hSw; (try dsimp only at hSw); go_simp <;> with_reducible rfl
                simp only [Act.put, List.setIfInBounds_toArray, List.set_cons_zero, List.set_cons_succ]
                refine heldTake 5 (some 35) (v := ?_) rfl rfl (by kernel_rfl) (by kernel_rfl) (by kernel_rfl) (by rfl) hHeld (fun _ _ _ h => h) ?_ ?_
                rotate_left
                · intro w' hSw; (try dsimp only at hSw); go_simp <;> with_reducible rfl
                simp only [Act.put, List.setIfInBounds_toArray, List.set_cons_zero, List.set_cons_succ]
                refine heldTake 6 (some 36) (v := ?_) rfl rfl (by kernel_rfl) (by kernel_rfl) (by kernel_rfl) (by rfl) hHeld (fun _ _ _ h => h) ?_ ?_
                rotate_left
                · intro w' hSw; (try dsimp only at hSw); go_simp <;> with_reducible rfl
                simp only [Act.put, List.setIfInBounds_toArray, List.set_cons_zero, List.set_cons_succ]
                refine heldTake 7 (some 37) (v := ?_) rfl rfl (by kernel_rfl) (by kernel_rfl) (by kernel_rfl) (by rfl) hHeld (fun _ _ _ h => h) ?_ ?_
                rotate_left
                · intro w' hSw; (try dsimp only at hSw); obtain ⟨e0, e1, e2, e3, e4, e5, e6, e7, e8⟩ := GY.out w' hSw; go_simp <;> with_reducible rfl
                simp only [Act.put, List.setIfInBounds_toArray, List.set_cons_zero, List.set_cons_succ]
                refine heldTake 8 (some 38) (v := ?_) rfl rfl (by kernel_rfl) (by kernel_rfl) (by kernel_rfl) (by rfl) hHeld (fun _ _ _ h => h) ?_ ?_
                rotate_left
                · intro w' hSw; (try dsimp only at hSw); go_simp <;> with_reducible rfl
                simp only [Act.put, List.setIfInBounds_toArray, List.set_cons_zero, List.set_cons_succ]
                refine heldTake 9 (some 39) (v := ?_) rfl rfl (by kernel_rfl) (by kernel_rfl) (by kernel_rfl) (by rfl) hHeld (fun _ _ _ h => h) ?_ ?_
                rotate_left
                · intro w' hSw; (try dsimp only at hSw); go_simp <;> with_reducible rfl
                simp only [Act.put, List.setIfInBounds_toArray, List.set_cons_zero, List.set_cons_succ]
                refine heldTake 10 (some 40) (v := ?_) rfl rfl (by kernel_rfl) (by kernel_rfl) (by kernel_rfl) (by rfl) hHeld (fun _ _ _ h => h) ?_ ?_
                rotate_left
                · intro w' hSw; (try dsimp only at hSw); go_simp <;> with_reducible rfl
                simp only [Act.put, List.setIfInBounds_toArray, List.set_cons_zero, List.set_cons_succ]
                refine heldTake 11 (some 41) (v := ?_) rfl rfl (by kernel_rfl) (by kernel_rfl) (by kernel_rfl) (by rfl) hHeld (fun _ _ _ h => h) ?_ ?_
                rotate_left
                · intro w' hSw; (try dsimp only at hSw); obtain ⟨e0, e1, e2, e3, e4, e5, e6, e7, e8⟩ := GX.out w' hSw; go_simp <;> with_reducible rfl
                simp only [Act.put, List.setIfInBounds_toArray, List.set_cons_zero, List.set_cons_succ]
                refine heldCall 12 (some 42) (f := ?_) (args := ?_) rfl rfl (by kernel_rfl) (by rfl) ?_ ?_
                rotate_left 2
                · go_simp <;> first | (constructor <;> with_reducible rfl) | with_reducible rfl
                (with_reducible refine (KC _).mono ?_)
                rintro _ w3 ⟨rfl, hb3'⟩
                have hb3 : Below wq.heap.size wq w3 := (Below.undrew hb3')
                refine ⟨_, rfl, keepAnd ?_ (fun hNew => ?_)⟩
                · exact hb3
                clear hHeld
                have hHeld := hNew
                clear hNew
                simp only [Act.put, List.setIfInBounds_toArray, List.set_cons_zero, List.set_cons_succ]
                refine heldTake 13 (some 43) (v := ?_) rfl rfl (by kernel_rfl) (by kernel_rfl) (by kernel_rfl) (by rfl) hHeld (fun _ _ _ h => h) ?_ ?_
                rotate_left
                · intro w' hSw; (try dsimp only at hSw); go_simp <;> with_reducible rfl
                simp only [Act.put, List.setIfInBounds_toArray, List.set_cons_zero, List.set_cons_succ]
                refine heldTake 14 (some 44) (v := ?_) rfl rfl (by kernel_rfl) (by kernel_rfl) (by kernel_rfl) (by rfl) hHeld (fun _ _ _ h => h) ?_ ?_
                rotate_left
                · intro w' hSw; (try dsimp only at hSw); go_simp <;> with_reducible rfl
                simp only [Act.put, List.setIfInBounds_toArray, List.set_cons_zero, List.set_cons_succ]
                refine wpAnyH_done (by kernel_rfl) ?_ _
                refine NoPanic.normal ?_
                clear hHeld
                have hbq : Below wq.heap.size wq w3 := hb3
                have hRw : RdG w3 g Q := HR.out.of_block (hbq.block g (by omega))
                have KCL := cloneV_any (.slice xA xn xc) x.row w3 (Rd.wide (Rd.keep HX0.out.row (fun b (hb : b < wq.heap.size ∧ b ≠ g) => hbq.block b hb.1)) (fun b hb => by show b < w3.heap.size; have := hbq.size; omega)) (by have := HXL.out.2; omega)
                have gr : w3.cell? ⟨g, i * 9 + 2, none⟩ = some (.slice xA xn xc) := (World.cell?_of_block (hbq.block g (by omega))).trans g2
                go_wp2_with fail
                (with_reducible refine KCL.mono ?_)
                rintro _ w5 ⟨u5, rfl, hO5, hb5⟩
                have hbq5 : Below wq.heap.size wq w5 := hbq.trans (hb5.mono hbq.size)
                have g5 : w5.cell? ⟨g, i * 9 + 2, none⟩ = some (.slice xA xn xc) := (World.cell?_of_block (hbq5.block g (by omega))).trans g2
                have f5 : w5.frozen? ⟨g, i * 9 + 2, none⟩ = false := (World.frozen?_of_block (hbq5.block g (by omega))).trans hfz
                obtain ⟨A5, c5, rfl, m1, m2, m3⟩ := Rd.open_ (Rd.of_own hO5)
                have hR5 : RdG (w5.setCell ⟨g, i * 9 + 2, none⟩ (.slice A5 x.row.length c5)) g (Q.set i ((⟨x1, x2, A5, x.row.length, c5, x3, x4, x5, x6, x7, x8⟩ : RV), x)) := by simpa using HSE.out (.slice A5 x.row.length c5) w5 (HR.out.of_block (hbq5.block g (by omega))) (⟨x1, x2, A5, x.row.length, c5, x3, x4, x5, x6, x7, x8⟩ : RV) rfl
                have hX5 : ∀ p ∈ Q.set i ((⟨x1, x2, A5, x.row.length, c5, x3, x4, x5, x6, x7, x8⟩ : RV), x), VerIs (w5.setCell ⟨g, i * 9 + 2, none⟩ (.slice A5 x.row.length c5)) (fun b => b < (w5.setCell ⟨g, i * 9 + 2, none⟩ (.slice A5 x.row.length c5)).heap.size ∧ b ≠ g) p.1 p.2 := fun p hp => by
                  have hss : (w5.setCell ⟨g, i * 9 + 2, none⟩ (.slice A5 x.row.length c5)).heap.size = w5.heap.size := by simp [World.setCell]
                  have hkeep : Keeps (fun b => b < w5.heap.size ∧ b ≠ g) w5 (w5.setCell ⟨g, i * 9 + 2, none⟩ (.slice A5 x.row.length c5)) := fun b hb => Below.heap_setCell _ _ _ _ hb.2
                  rw [hss]
                  refine VerIs.keep ?_ hkeep
                  rcases HQM.out _ p hp with hp | rfl
                  · exact ((HX.out p hp).keep (fun b hb => hbq5.block b hb.1)).wide (fun b hb => ⟨by have := hbq5.size; omega, hb.2⟩)
                  · have h0 := HX0.out
                    refine ⟨h0.id, h0.sch, h0.vf, h0.vt, h0.sf, h0.st, h0.by_, h0.un, ?_, h0.ok⟩
                    exact Rd.wide (Rd.of_own hO5) (fun b hb => ⟨hb.2, by have := hb.1; have := hbq.size; omega⟩)
                have HR5 := Lib.hid hR5
                have HX5 := Lib.hid hX5
                have hB5 : Below w.heap.size w (w5.setCell ⟨g, i * 9 + 2, none⟩ (.slice A5 x.row.length c5)) := (hB2.trans (hbq5.mono hsq)).setCell (p := ⟨g, i * 9 + 2, none⟩) (by show w.heap.size ≤ g; omega) _
                have hs5 := hbq5.size
                clear hR5 hX5 m3 m2 hRw KCL gr
                have hnn : ps.length ≤ 1000000 := HNN.out
                have hlt3 : i < ps.length := HLT.out
                go_wp2_with fail
                go_roundw
                case rel => exact ⟨i + 1, Q.set i ((⟨x1, x2, A5, x.row.length, c5, x3, x4, x5, x6, x7, x8⟩ : RV), x), by first | rfl | go_num, by have := HLT.out; omega, Lib.hid (HQ2.out _), HR5, HX5, Lib.hid (HPN.out (fun _ => by rw [← HQ1.out]; exact HC1.out HNE.out (by have := HSS.out hi0; rw [← HQ1.out] at this; exact this))), hB5, by simp [World.setCell]; omega⟩
                case measure => have := HLT.out; simp [intOf]; omega
end Go.Proofs.Ytkhmjlahlcighaa
