/-
  The segment's versions: Versions, Search.
-/
import Derived.Test.YtacjiocffbgkkaaGreatSegM
namespace Go.Proofs.YtacjiocffbgkkaaGreat
open Go.RowKit Go.Lib Go.IntWalk Go.Sort Go.Shelf

/-- the versions that overlap r, and the number of blocks that were read -/
def srchF (cs : List (List Ver)) (r : Rec) : List Ver × Nat :=
  if validR r = true then ((cs.filter fun c => ovlR (bndF c) r).flatMap (fun c => c.filter fun x => ovlR (recOf x) r), (cs.filter fun c => ovlR (bndF c) r).length) else ([], 0)
theorem take_flat {α : Type} {cs : List (List α)} {k : Nat} (h : k < cs.length) : (cs.take (k + 1)).flatten = (cs.take k).flatten ++ cs[k] := by
  rw [List.take_succ_eq_append_getElem h, List.flatten_append]; simp
/-- what Versions and Search hand over -/
def VsOut (vs : List Ver) (w0 w : World) (u : Value) : Prop := ∃ Q, RdVs w (· < w.heap.size) u Q ∧ Q.map (·.2) = vs ∧ Below w0.heap.size w0 w
theorem search_step {cs : List (List Ver)} {r : Rec} {k : Nat} (h : k < cs.length) : ((cs.take (k + 1)).filter fun c => ovlR (bndF c) r) = ((cs.take k).filter fun c => ovlR (bndF c) r) ++ (if ovlR (bndF cs[k]) r = true then [cs[k]] else []) := by
  rw [List.take_succ_eq_append_getElem h, List.filter_append]
  congr 1
  simp only [List.filter_cons, List.filter_nil]

set_option maxRecDepth 1000000 in
set_option maxHeartbeats 8000000 in
theorem segVersions_any (P : Nat) (t : List UInt8) (cs : List (List Ver)) (W : World) (h : SegAt W P t cs) (hn : cs.flatten.length ≤ 1048576) (hr : ∀ c ∈ cs, ∀ x ∈ c, x.row.length ≤ 12) :
    Calls Tryz.prog 16 #[.pointer (some ⟨P, 0, none⟩)] W fun e w' => ∃ u, e = .returned u ∧ VsOut cs.flatten W w' u := by
  obtain ⟨u, ls, h1, h2, h3⟩ := h
  obtain ⟨A, c, rfl, q1, q2, q3⟩ := h2.1.open_
  unfold maxLen at q2
  have HM : Hid (ls.map (fun p => p.2.map (·.2)) = cs) := Lib.hid h3
  have HCL : Hid (cs.length = ls.length) := Lib.hid (by rw [← h3, List.length_map])
  have HRW := Lib.hid hr
  have HNN := Lib.hid hn
  obtain ⟨i0, hi, hz0, hz1, hz2⟩ := info_parts infoVer
  have HI := Lib.hid hi
  have HZ0 := Lib.hid hz0
  have HZ1 := Lib.hid hz1
  have HZ2 := Lib.hid hz2
  have c1 : W.cell? ⟨P, 1, none⟩ = some (.slice A ls.length c) := cell_of_row W P 1 _ _ _ h1
  have HBk := Lib.hid h2
  clear h1 h2 h3 q3 hr hn hi hz0 hz1 hz2
  go_enter Tryz.func16, Tryz.ntmps16
  go_wp2_with fail
  go_loopw [3, 15] (fun o i wr => ∃ (k : Nat) (Q : List VP), i = .int .i64 (k : Int) ∧ k ≤ ls.length ∧ Hid (OwnP wr W.heap.size o Q) ∧ Hid (∀ p ∈ Q, VerIs wr (fun b => b < wr.heap.size ∧ some b ≠ Value.ownBlock o) p.1 p.2) ∧ Hid (Q.map (·.2) = (cs.take k).flatten) ∧ Hid (Below W.heap.size W wr)) (fun _ i _ => ls.length - (intOf i).toNat)
  case atStart => exact ⟨0, [], rfl, Nat.zero_le _, Lib.hid (World.ownsRow_nil _ _ _ _), Lib.hid (fun p hp => by cases hp), Lib.hid rfl, Lib.hid (Below.refl _ _)⟩
  case round =>
    obtain ⟨k, Q, rfl, hk, HO, HR, HQ, HB⟩ := hrel
    obtain ⟨wi, rfl⟩ : ∃ wi : World, wi = wr := ⟨_, rfl⟩
    by_cases hlt : k < ls.length
    case neg =>
      have HF : Hid (Q.map (·.2) = cs.flatten) := Lib.hid (by rw [HQ.out, List.take_of_length_le (by have := HCL.out; omega)])
      go_wp2_with fail
      go_ret
      exact ⟨_, rfl, Q, ⟨(Rd.of_own HO.out).wide (fun b hb => hb.2), fun p hp => (HR.out p hp).wide fun b hb => hb.1⟩, HF.out, HB.out⟩
    case pos =>
      obtain ⟨b, off, rfl, hF, hclr, -⟩ := RdBk.at_ (HBk.out.below HB.out) hlt
      have hck : cs[k]'(by have := HCL.out; omega) = ls[k].2.map (·.2) := by
        have := HM.out
        subst this
        rw [List.getElem_map]
      have hx := HBk.out.2 _ (List.getElem_mem hlt)
      have hrk := HRW.out _ (List.getElem_mem (show k < cs.length by have := HCL.out; omega))
      obtain ⟨Ap, cp, hpv, p1, p2, p3⟩ := hx.1.open_
      unfold maxLen at p2
      have hbe : blkE ls[k] = (bR ls[k]).enc ++ [.slice Ap ls[k].2.length cp] := by rw [← hpv]; rfl
      rw [hbe] at hclr
      rw [hpv] at hx
      have hbR : bR ls[k] = bndF (cs[k]'(by have := HCL.out; omega)) := by rw [hck]; rfl
      have HCK : Hid (cs[k]? = some (ls[k].2.map (·.2))) := Lib.hid (by rw [List.getElem?_eq_getElem (by have := HCL.out; omega), hck])
      rw [hck] at hrk hbR
      obtain ⟨qs, hqs⟩ : ∃ qs, qs = ls[k].2 := ⟨_, rfl⟩
      obtain ⟨pn, hpn⟩ : ∃ pn, pn = qs.length := ⟨_, rfl⟩
      rw [← hqs] at hx hrk hbR hclr p1 HCK
      rw [← hpn] at hx hclr p1
      have HPN := Lib.hid hpn
      have HRK := Lib.hid hrk
      have HXX := Lib.hid hx
      generalize bR ls[k] = r0 at *
      obtain ⟨r1, r2, r3, r4⟩ := r0
      have HBR := Lib.hid hbR
      have g0 : wi.cell? ⟨b, off + k * 5, none⟩ = some (.int .i64 r1) := hclr 0 _ (by decide) rfl
      have g1 : wi.cell? ⟨b, off + k * 5 + 1, none⟩ = some (.int .i64 r2) := hclr 1 _ (by decide) rfl
      have g2 : wi.cell? ⟨b, off + k * 5 + 2, none⟩ = some (.int .i64 r3) := hclr 2 _ (by decide) rfl
      have g3 : wi.cell? ⟨b, off + k * 5 + 3, none⟩ = some (.int .i64 r4) := hclr 3 _ (by decide) rfl
      have g4 : wi.cell? ⟨b, off + k * 5 + 4, none⟩ = some (.slice Ap pn cp) := hclr 4 _ (by decide) rfl
      clear hclr hx hbe hpv p3 hqs hpn hrk hck hbR
      obtain ⟨wx, hwx⟩ : ∃ wx, wx = wi.alloc (.cells #[.int .i64 r1, .int .i64 r2, .int .i64 r3, .int .i64 r4, .slice Ap pn cp] 81) := ⟨_, rfl⟩
      have hbx : Below wi.heap.size wi wx := by rw [hwx]; exact Below.of_alloc _
      have HO1 : Hid (OwnP wx W.heap.size u3 Q) := Lib.hid (own_below HO.out hbx)
      have HR1 : Hid (∀ p ∈ Q, VerIs wx (fun b => b < wx.heap.size ∧ some b ≠ Value.ownBlock u3) p.1 p.2) := Lib.hid (fun p hp => ((HR.out p hp).keep (fun b hb => hbx.block b hb.1)).wide (fun b hb => ⟨Nat.lt_of_lt_of_le hb.1 hbx.size, hb.2⟩))
      have HBX : Hid (Below W.heap.size W wx) := Lib.hid (HB.out.trans (hbx.mono HB.out.size))
      have HQ1 : Hid (Q.map (·.2) = (cs.take k).flatten ++ (qs.take 0).map (·.2)) := Lib.hid (by rw [HQ.out]; simp)
      clear hbx HO HR HQ
      go_wp2_with fail
      rw [← hwx]
      clear hwx g0 g1 g2 g3 g4
      go_loopw [3, 22] (fun o i wr => ∃ (j : Nat) (Q : List VP), i = .int .i64 (j : Int) ∧ j ≤ pn ∧ Hid (OwnP wr W.heap.size o Q) ∧ Hid (∀ p ∈ Q, VerIs wr (fun b => b < wr.heap.size ∧ some b ≠ Value.ownBlock o) p.1 p.2) ∧ Hid (Q.map (·.2) = (cs.take k).flatten ++ (qs.take j).map (·.2)) ∧ Hid (Below W.heap.size W wr)) (fun _ i _ => pn - (intOf i).toNat)
      case atStart => exact ⟨0, Q, rfl, Nat.zero_le _, HO1, HR1, HQ1, HBX⟩
      case round =>
        clear HO1 HR1 HBX HQ1
        obtain ⟨j, Q', rfl, hj, HO, HR, HQ, HB⟩ := hrel
        obtain ⟨Q, rfl⟩ : ∃ Q, Q = Q' := ⟨_, rfl⟩
        obtain ⟨wq, rfl⟩ : ∃ wq : World, wq = wr := ⟨_, rfl⟩
        by_cases hltj : j < pn
        case neg =>
          have HQN : Hid (Q.map (·.2) = (cs.take (k + 1)).flatten) := Lib.hid (by
            have hk2 : k < cs.length := by have := HCL.out; omega
            have e := HCK.out
            rw [List.getElem?_eq_getElem hk2] at e
            rw [take_flat hk2, Option.some.inj e, HQ.out, show qs.take j = qs from List.take_of_length_le (by have := HPN.out; omega)])
          go_wp2_with fail
          go_roundw
          case rel => exact ⟨k + 1, Q, by go_num, by omega, HO, HR, HQN, HB⟩
          case measure => simp [intOf]; omega
        case pos =>
          have hxq : RdVs wq (· < wq.heap.size) (.slice Ap qs.length cp) qs := by have h := HXX.out.below HB.out; rw [HPN.out] at h; exact h
          obtain ⟨bb, bo, rfl, hFb, hxc, hxv⟩ := RdVs.at_ hxq (k := j) (by have := HPN.out; omega)
          have hrj := HRK.out _ (List.mem_map_of_mem (List.getElem_mem (show j < qs.length by have := HPN.out; omega)))
          have htj := List.take_succ_eq_append_getElem (l := qs) (i := j) (by have := HPN.out; omega)
          generalize qs[j]'(by have := HPN.out; omega) = p at *
          obtain ⟨⟨x1, x2, xA, xn, xc, x3, x4, x5, x6, x7, x8⟩, x⟩ := p
          simp only at hxc hxv hrj
          have d0 : wq.cell? ⟨bb, bo + j * 9, none⟩ = some (.int .i64 x1) := hxc 0 _ (by decide) rfl
          have d1 : wq.cell? ⟨bb, bo + j * 9 + 1, none⟩ = some (.int .i64 x2) := hxc 1 _ (by decide) rfl
          have d2 : wq.cell? ⟨bb, bo + j * 9 + 2, none⟩ = some (.slice xA xn xc) := hxc 2 _ (by decide) rfl
          have d3 : wq.cell? ⟨bb, bo + j * 9 + 3, none⟩ = some (.int .i64 x3) := hxc 3 _ (by decide) rfl
          have d4 : wq.cell? ⟨bb, bo + j * 9 + 4, none⟩ = some (.int .i64 x4) := hxc 4 _ (by decide) rfl
          have d5 : wq.cell? ⟨bb, bo + j * 9 + 5, none⟩ = some (.int .i64 x5) := hxc 5 _ (by decide) rfl
          have d6 : wq.cell? ⟨bb, bo + j * 9 + 6, none⟩ = some (.int .i64 x6) := hxc 6 _ (by decide) rfl
          have d7 : wq.cell? ⟨bb, bo + j * 9 + 7, none⟩ = some (.int .i64 x7) := hxc 7 _ (by decide) rfl
          have d8 : wq.cell? ⟨bb, bo + j * 9 + 8, none⟩ = some (.int .i64 x8) := hxc 8 _ (by decide) rfl
          have HTJ := Lib.hid htj
          obtain ⟨wb, hwb⟩ : ∃ wb, wb = wq.alloc (.cells #[.int .i64 x1, .int .i64 x2, .slice xA xn xc, .int .i64 x3, .int .i64 x4, .int .i64 x5, .int .i64 x6, .int .i64 x7, .int .i64 x8] 61) := ⟨_, rfl⟩
          have hbb : Below wq.heap.size wq wb := by rw [hwb]; exact Below.of_alloc _
          have hbs : wq.heap.size < wb.heap.size := by rw [hwb]; simp
          have hbv : wb.heap[wq.heap.size]? = some (.cells #[.int .i64 x1, .int .i64 x2, .slice xA xn xc, .int .i64 x3, .int .i64 x4, .int .i64 x5, .int .i64 x6, .int .i64 x7, .int .i64 x8] 61 (0, 0)) := by rw [hwb]; exact heap_alloc_new _ _
          have HBV := Lib.hid hbv
          have HBB := Lib.hid hbb
          have HXV : Hid (VerIs wb (· < wb.heap.size) (⟨x1, x2, xA, xn, xc, x3, x4, x5, x6, x7, x8⟩ : RV) x) := Lib.hid ((hxv.keep (Keeps.below hbb)).wide (fun b (hb : b < wq.heap.size) => by show b < wb.heap.size; omega))
          clear hxc hxv htj hbv hbb hxq
          obtain ⟨Ao, co, rfl, o1, o2, o3⟩ := Rd.open_ (Rd.of_own HO.out)
          unfold maxLen at o2
          have hQl : Q.length ≤ 1048576 := by
            have e := congrArg List.length HQ.out
            rw [List.length_map, List.length_append, List.length_map, List.length_take] at e
            have hk2 : k < cs.length := by have := HCL.out; omega
            have e2 := take_flat hk2
            have e4 := HCK.out
            rw [List.getElem?_eq_getElem hk2] at e4
            rw [Option.some.inj e4] at e2
            have e3 : ((cs.take (k + 1)).flatten).length ≤ cs.flatten.length := by
              conv => rhs; rw [← List.take_append_drop (k + 1) cs]
              rw [List.flatten_append, List.length_append]; omega
            rw [e2, List.length_append, List.length_map] at e3
            have := HNN.out
            omega
          have KCL := clone_ver x1 x2 xA xn xc x3 x4 x5 x6 x7 x8 x wb HXV.out (by omega)
          have HPRE : Hid (Below wq.heap.size wq wb) := HBB
          have HLW : Hid (wq.heap.size ≤ wb.heap.size) := Lib.hid (by omega)
          have HQN : Hid (∀ r : RV, (Q ++ [((r, x) : VP)]).map (·.2) = (cs.take k).flatten ++ (qs.take (j + 1)).map (·.2)) := Lib.hid (fun r => by rw [List.map_append, HQ.out, HTJ.out]; simp)
          have HJN : Hid (j + 1 ≤ pn) := Lib.hid hltj
          clear o3
          go_wp2_with fail
          rw [← hwb]
          clear hwb d0 d1 d2 d3 d4 d5 d6 d7 d8
          (with_reducible refine KCL.mono ?_)
          rintro _ w2 ⟨yA, yc, rfl, hX2, hb2⟩
          have HX2 : Hid (VerIs w2 (fun b => wq.heap.size ≤ b ∧ b < w2.heap.size) (⟨x1, x2, yA, xn, yc, x3, x4, x5, x6, x7, x8⟩ : RV) x) := Lib.hid (hX2.wide (fun b hb => ⟨by have := HLW.out; omega, hb.2⟩))
          have HB2i : Hid (Below wq.heap.size wq w2) := Lib.hid (HPRE.out.trans (hb2.mono HLW.out))
          clear hX2 hb2 KCL
          have HOA : Hid (OwnP (w2.alloc (.cells #[.int .i64 x1, .int .i64 x2, .slice yA xn yc, .int .i64 x3, .int .i64 x4, .int .i64 x5, .int .i64 x6, .int .i64 x7, .int .i64 x8] 61)) W.heap.size (.slice Ao Q.length co) Q) := Lib.hid (World.ownsRow.alloc (own_below HO.out HB2i.out) _)
          have hnew : Rd (w2.alloc (.cells #[.int .i64 x1, .int .i64 x2, .slice yA xn yc, .int .i64 x3, .int .i64 x4, .int .i64 x5, .int .i64 x6, .int .i64 x7, .int .i64 x8] 61)) (· = w2.heap.size) 9 (.slice (some ⟨w2.heap.size, 0, none⟩) 1 1) 1 [.int .i64 x1, .int .i64 x2, .slice yA xn yc, .int .i64 x3, .int .i64 x4, .int .i64 x5, .int .i64 x6, .int .i64 x7, .int .i64 x8] := Rd.new' w2 w2.heap.size rfl [.int .i64 x1, .int .i64 x2, .slice yA xn yc, .int .i64 x3, .int .i64 x4, .int .i64 x5, .int .i64 x6, .int .i64 x7, .int .i64 x8] 61 9 1 rfl (by decide)
          have HNEW := Lib.hid hnew
          have HOL : Hid (∀ b, some b = (Value.slice Ao Q.length co).ownBlock → W.heap.size ≤ b ∧ b < wq.heap.size) := Lib.hid (fun b hb => by
            obtain ⟨g1, _, g2⟩ := own_block HO.out hb
            exact ⟨g1, (Array.getElem?_eq_some_iff.1 g2).1⟩)
          have HWW : Hid (W.heap.size ≤ w2.heap.size) := Lib.hid (by have h1 := HB.out.size; have h2 := HB2i.out.size; omega)
          have hw2 : W.heap.size ≤ w2.heap.size := HWW.out
          clear hnew
          go_wp2_with (at_builtin; refine wpList_append_app (w2.alloc (.cells #[.int .i64 x1, .int .i64 x2, .slice yA xn yc, .int .i64 x3, .int .i64 x4, .int .i64 x5, .int .i64 x6, .int .i64 x7, .int .i64 x8] 61)) rfl (.tmp 26) (.tmp 29) 22 rfl W.heap.size 61 i0 _ 9 88 Tryz.underlying22 HI.out HZ0.out HZ1.out HZ2.out rfl (by omega) (.slice Ao Q.length co) Q.length (cellsP Q) rfl (.inl HOA.out) (· = w2.heap.size) _ 1 [.int .i64 x1, .int .i64 x2, .slice yA xn yc, .int .i64 x3, .int .i64 x4, .int .i64 x5, .int .i64 x6, .int .i64 x7, .int .i64 x8] rfl HNEW.out ((⟨x1, x2, yA, xn, yc, x3, x4, x5, x6, x7, x8⟩ : RV).enc_one) (by unfold maxLen; omega) (by omega) (by simp; omega) ?_; intro v5 w5 _ hO5 hg5 hb5 hv5)
          all_goals skip
          have hO5' : OwnP w5 W.heap.size v5 (Q ++ [(((⟨x1, x2, yA, xn, yc, x3, x4, x5, x6, x7, x8⟩ : RV), x) : VP)]) := by
            have h := hO5 (.inl (by omega))
            unfold OwnP
            rw [List.length_append, cellsP_append]
            exact h
          have hs5 : w2.heap.size + 1 ≤ w5.heap.size := by have := hg5.size; simpa using this
          have hs2 : wq.heap.size ≤ w2.heap.size := HB2i.out.size
          have hbk : ∀ b, b < w2.heap.size → some b ≠ (Value.slice Ao Q.length co).ownBlock → w5.heap[b]? = w2.heap[b]? := fun b hb hne => (hg5.block b (by simp; omega) hne).trans ((Below.of_alloc (w := w2) (.cells #[.int .i64 x1, .int .i64 x2, .slice yA xn yc, .int .i64 x3, .int .i64 x4, .int .i64 x5, .int .i64 x6, .int .i64 x7, .int .i64 x8] 61)).block b hb)
          have HR5 : Hid (∀ p ∈ Q ++ [(((⟨x1, x2, yA, xn, yc, x3, x4, x5, x6, x7, x8⟩ : RV), x) : VP)], VerIs w5 (fun b => b < w5.heap.size ∧ some b ≠ Value.ownBlock v5) p.1 p.2) := Lib.hid (fun p hp => by
            rcases List.mem_append.1 hp with hp | hp
            · refine ((HR.out p hp).keep (w' := w5) (fun b hb => ?_)).wide (fun b hb => ?_)
              · exact (hbk b (by omega) hb.2).trans (HB2i.out.block b hb.1)
              · refine ⟨by omega, ?_⟩
                rcases hv5 with hv5 | hv5
                · rw [hv5]; exact hb.2
                · rw [hv5]; simp; omega
            · rw [List.mem_singleton] at hp
              subst hp
              refine ((HX2.out).keep (w' := w5) (fun b hb => ?_)).wide (fun b hb => ?_)
              · exact hbk b hb.2 (fun e => by have := (HOL.out b e).2; omega)
              · refine ⟨by omega, ?_⟩
                rcases hv5 with hv5 | hv5
                · rw [hv5]; exact fun e => by have := (HOL.out b e).2; omega
                · rw [hv5]; simp; omega)
          have HB5 : Hid (Below W.heap.size W w5) := Lib.hid (((HB.out.trans (HB2i.out.mono HB.out.size)).alloc HWW.out _).trans hb5)
          have HO6 := Lib.hid hO5'
          clear hO5 hO5' hg5 hb5 hv5 hbk
          go_wp2_with fail
          go_roundw
          case rel => exact ⟨j + 1, _, by go_num, HJN.out, HO6, HR5, Lib.hid (HQN.out _), HB5⟩
          case measure => have := HJN.out; simp [intOf]; omega

theorem filt_len {α : Type} (f : List α → Bool) (g : α → Bool) (cs : List (List α)) : ((cs.filter f).flatMap (fun c => c.filter g)).length ≤ cs.flatten.length := by
  induction cs with
  | nil => simp
  | cons c r ih =>
    rw [List.filter_cons]
    have := List.length_filter_le g c
    split
    · rw [List.flatMap_cons, List.length_append, List.flatten_cons, List.length_append]; omega
    · rw [List.flatten_cons, List.length_append]; omega

set_option maxRecDepth 1000000 in
set_option maxHeartbeats 16000000 in
theorem segSearch_any (P : Nat) (t : List UInt8) (cs : List (List Ver)) (a1 a2 a3 a4 : Int) (w : World) (h : SegAt w P t cs) (hn : cs.flatten.length ≤ 1048576) (hr : ∀ c ∈ cs, ∀ x ∈ c, x.row.length ≤ 12) :
    Calls Tryz.prog 11 #[.pointer (some ⟨P, 0, none⟩), .agg #[.int .i64 a1, .int .i64 a2, .int .i64 a3, .int .i64 a4]] w fun e w' => ∃ u, e = .returned (.tuple #[u, .int .i64 ((srchF cs (⟨a1, a2, a3, a4⟩ : Rec)).2 : Nat)]) ∧ VsOut (srchF cs (⟨a1, a2, a3, a4⟩ : Rec)).1 w w' u := by
  have HSG := Lib.hid h
  obtain ⟨V0, hV0⟩ : ∃ V0, V0 = w.alloc (.cells #[.int .i64 a1, .int .i64 a2, .int .i64 a3, .int .i64 a4] 26) := ⟨_, rfl⟩
  have hbV : Below w.heap.size w V0 := by rw [hV0]; exact Below.of_alloc _
  obtain ⟨B, hBe⟩ : ∃ B, B = w.heap.size := ⟨_, rfl⟩
  have hVs : V0.heap.size = B + 1 := by rw [hV0, hBe]; simp
  have hT0 : V0.heap[B]? = some (.cells #[.int .i64 a1, .int .i64 a2, .int .i64 a3, .int .i64 a4] 26 (0, 0)) := by rw [hV0, hBe]; exact heap_alloc_new _ _
  have HT0 := Lib.hid hT0
  have HBV0 := Lib.hid hbV
  have t0 : V0.cell? ⟨B, 0, none⟩ = some (.int .i64 a1) := cell_of_row V0 _ 0 _ _ _ hT0
  have t1 : V0.cell? ⟨B, 1, none⟩ = some (.int .i64 a2) := cell_of_row V0 _ 1 _ _ _ hT0
  obtain ⟨v1, hv1⟩ : ∃ bo, bo = validP a1 a2 := ⟨_, rfl⟩
  obtain ⟨v2, hv2⟩ : ∃ bo, bo = validP a3 a4 := ⟨_, rfl⟩
  have K1 := pv_any a1 a2 V0
  have K2 := fun V => pv_any a3 a4 V
  rw [← hv1] at K1
  rw [← hv2] at K2
  have HVR : Hid (validR (⟨a1, a2, a3, a4⟩ : Rec) = (v1 && v2)) := Lib.hid (by rw [validR, hv1, hv2])
  obtain ⟨sr, hsr⟩ : ∃ sr, sr = srchF cs (⟨a1, a2, a3, a4⟩ : Rec) := ⟨_, rfl⟩
  rw [← hsr]
  have HSR := Lib.hid hsr
  clear hv1 hv2 hT0 hbV h hsr
  go_enter Tryz.func11, Tryz.ntmps11
  rw [hV0, hBe] at t0 t1
  go_wp2_with fail
  rw [← hV0, ← hBe]
  clear t0 t1
  (with_reducible refine K1.mono ?_)
  rintro _ y1 ⟨rfl, hy1⟩
  have HY1 : Hid (Below V0.heap.size V0 y1) := Lib.hid hy1
  have hTy := (hy1.block B (by omega)).trans HT0.out
  have t2 : y1.cell? ⟨B, 2, none⟩ = some (.int .i64 a3) := cell_of_row y1 _ 2 _ _ _ hTy
  have t3 : y1.cell? ⟨B, 3, none⟩ = some (.int .i64 a4) := cell_of_row y1 _ 3 _ _ _ hTy
  have hBw : B = w.heap.size := hBe
  have HBW := Lib.hid hBw
  clear hy1 hTy K1 hV0 hBe hBw
  cases v1
  case false =>
    have HE : Hid (sr = ([], 0)) := Lib.hid (by rw [HSR.out]; exact if_neg (by rw [HVR.out]; simp))
    go_wp2_with fail
    go_ret2
    rw [HE.out]
    exact ⟨_, rfl, [], ⟨Rd.nil _ _ _, fun p hp => by cases hp⟩, rfl, HBV0.out.trans (HY1.out.mono (by have := HBW.out; omega))⟩
  case true =>
    have K2 := K2 y1
    go_wp2_with fail
    (with_reducible refine K2.mono ?_)
    rintro _ W ⟨rfl, hy2⟩
    have HYW : Hid (Below V0.heap.size V0 W) := Lib.hid (HY1.out.trans (hy2.mono HY1.out.size))
    clear hy2 K2 t2 t3
    cases v2
    case false =>
      have HE : Hid (sr = ([], 0)) := Lib.hid (by rw [HSR.out]; exact if_neg (by rw [HVR.out]; simp))
      go_wp2_with fail
      go_ret2
      rw [HE.out]
      exact ⟨_, rfl, [], ⟨Rd.nil _ _ _, fun p hp => by cases hp⟩, rfl, HBV0.out.trans (HYW.out.mono (by have := HBW.out; omega))⟩
    case true =>
      have HE : Hid (sr = ((cs.filter (fun c => ovlR (bndF c) (⟨a1, a2, a3, a4⟩ : Rec))).flatMap (fun c => c.filter (fun x => ovlR (recOf x) (⟨a1, a2, a3, a4⟩ : Rec))), (cs.filter (fun c => ovlR (bndF c) (⟨a1, a2, a3, a4⟩ : Rec))).length)) := Lib.hid (by rw [HSR.out]; exact if_pos (by rw [HVR.out]; decide))
      have HWw : Hid (Below w.heap.size w W) := Lib.hid (HBV0.out.trans (HYW.out.mono (by have := HBW.out; omega)))
      have HTW : Hid (W.heap[B]? = some (.cells #[.int .i64 a1, .int .i64 a2, .int .i64 a3, .int .i64 a4] 26 (0, 0))) := Lib.hid ((HYW.out.block B (by omega)).trans HT0.out)
      have HBL : Hid (B < W.heap.size) := Lib.hid (by have := HYW.out.size; omega)
      have h := HSG.out.below HWw.out
      clear hVs
      obtain ⟨u, ls, h1, h2, h3⟩ := h
      obtain ⟨A, c, rfl, q1, q2, q3⟩ := h2.1.open_
      unfold maxLen at q2
      have HM : Hid (ls.map (fun p => p.2.map (·.2)) = cs) := Lib.hid h3
      have HCL : Hid (cs.length = ls.length) := Lib.hid (by rw [← h3, List.length_map])
      have HRW := Lib.hid hr
      have HNN := Lib.hid hn
      obtain ⟨i0, hi, hz0, hz1, hz2⟩ := info_parts infoVer
      have HI := Lib.hid hi
      have HZ0 := Lib.hid hz0
      have HZ1 := Lib.hid hz1
      have HZ2 := Lib.hid hz2
      have c1 : W.cell? ⟨P, 1, none⟩ = some (.slice A ls.length c) := cell_of_row W P 1 _ _ _ h1
      have HBk := Lib.hid h2
      clear h1 h2 h3 q3 hr hn hi hz0 hz1 hz2
      go_wp2_with fail
      go_loopw [6, 7, 31] (fun o n i wr => ∃ (k m : Nat) (Q : List VP), n = .int .i64 (m : Int) ∧ i = .int .i64 (k : Int) ∧ k ≤ ls.length ∧ m ≤ k ∧ Hid (OwnP wr W.heap.size o Q) ∧ Hid (∀ p ∈ Q, VerIs wr (fun b => b < wr.heap.size ∧ some b ≠ Value.ownBlock o) p.1 p.2) ∧ Hid (Q.map (·.2) = (((cs.take k).filter (fun c => ovlR (bndF c) (⟨a1, a2, a3, a4⟩ : Rec))).flatMap (fun c => c.filter (fun x => ovlR (recOf x) (⟨a1, a2, a3, a4⟩ : Rec))))) ∧ Hid (m = ((cs.take k).filter (fun c => ovlR (bndF c) (⟨a1, a2, a3, a4⟩ : Rec))).length) ∧ Hid (Below W.heap.size W wr)) (fun _ _ i _ => ls.length - (intOf i).toNat)
      case atStart => exact ⟨0, 0, [], rfl, rfl, Nat.zero_le _, Nat.le_refl _, Lib.hid (World.ownsRow_nil _ _ _ _), Lib.hid (fun p hp => by cases hp), Lib.hid rfl, Lib.hid rfl, Lib.hid (Below.refl _ _)⟩
      case round =>
        obtain ⟨k, m, Q, rfl, rfl, hk, hmk, HO, HR, HQ, HMM, HB⟩ := hrel
        obtain ⟨wi, rfl⟩ : ∃ wi : World, wi = wr := ⟨_, rfl⟩
        by_cases hlt : k < ls.length
        case neg =>
          have HF : Hid (sr = (Q.map (·.2), m)) := Lib.hid (by rw [HE.out, HQ.out, HMM.out, show cs.take k = cs from List.take_of_length_le (by have := HCL.out; omega)])
          go_wp2_with fail
          go_ret2
          rw [HF.out]
          exact ⟨_, rfl, Q, ⟨(Rd.of_own HO.out).wide (fun b hb => hb.2), fun p hp => (HR.out p hp).wide fun b hb => hb.1⟩, rfl, HWw.out.trans (HB.out.mono HWw.out.size)⟩
        case pos =>
          obtain ⟨b, off, rfl, hF, hclr, -⟩ := RdBk.at_ (HBk.out.below HB.out) hlt
          have hck : cs[k]'(by have := HCL.out; omega) = ls[k].2.map (·.2) := by
            have := HM.out
            subst this
            rw [List.getElem_map]
          have hx := HBk.out.2 _ (List.getElem_mem hlt)
          have hrk := HRW.out _ (List.getElem_mem (show k < cs.length by have := HCL.out; omega))
          obtain ⟨Ap, cp, hpv, p1, p2, p3⟩ := hx.1.open_
          unfold maxLen at p2
          have hbe : blkE ls[k] = (bR ls[k]).enc ++ [.slice Ap ls[k].2.length cp] := by rw [← hpv]; rfl
          rw [hbe] at hclr
          rw [hpv] at hx
          have hbR : bR ls[k] = bndF (cs[k]'(by have := HCL.out; omega)) := by rw [hck]; rfl
          have HCK : Hid (cs[k]? = some (ls[k].2.map (·.2))) := Lib.hid (by rw [List.getElem?_eq_getElem (by have := HCL.out; omega), hck])
          rw [hck] at hrk hbR
          obtain ⟨qs, hqs⟩ : ∃ qs, qs = ls[k].2 := ⟨_, rfl⟩
          obtain ⟨pn, hpn⟩ : ∃ pn, pn = qs.length := ⟨_, rfl⟩
          rw [← hqs] at hx hrk hbR hclr p1 HCK
          rw [← hpn] at hx hclr p1
          have HPN := Lib.hid hpn
          have HRK := Lib.hid hrk
          have HXX := Lib.hid hx
          generalize bR ls[k] = r0 at *
          obtain ⟨r1, r2, r3, r4⟩ := r0
          have HBR := Lib.hid hbR
          have g0 : wi.cell? ⟨b, off + k * 5, none⟩ = some (.int .i64 r1) := hclr 0 _ (by decide) rfl
          have g1 : wi.cell? ⟨b, off + k * 5 + 1, none⟩ = some (.int .i64 r2) := hclr 1 _ (by decide) rfl
          have g2 : wi.cell? ⟨b, off + k * 5 + 2, none⟩ = some (.int .i64 r3) := hclr 2 _ (by decide) rfl
          have g3 : wi.cell? ⟨b, off + k * 5 + 3, none⟩ = some (.int .i64 r4) := hclr 3 _ (by decide) rfl
          have g4 : wi.cell? ⟨b, off + k * 5 + 4, none⟩ = some (.slice Ap pn cp) := hclr 4 _ (by decide) rfl
          clear hclr hx hbe hpv p3 hqs hpn hrk hck hbR
          have hk2 : k < cs.length := by have := HCL.out; omega
          have hck2 : cs[k] = qs.map (·.2) := by
            have e := HCK.out
            rw [List.getElem?_eq_getElem hk2] at e
            exact Option.some.inj e
          have hss := search_step (r := (⟨a1, a2, a3, a4⟩ : Rec)) hk2
          rw [hck2, ← HBR.out] at hss
          have KO := regOvl_any r1 r2 r3 r4 a1 a2 a3 a4
          obtain ⟨vo, hvo⟩ : ∃ bo, bo = ovlR ⟨r1, r2, r3, r4⟩ (⟨a1, a2, a3, a4⟩ : Rec) := ⟨_, rfl⟩
          rw [← hvo] at hss KO
          have HSS := Lib.hid hss
          have HCK2 := Lib.hid hck2
          obtain ⟨wx, hwx⟩ : ∃ wx, wx = wi.alloc (.cells #[.int .i64 r1, .int .i64 r2, .int .i64 r3, .int .i64 r4, .slice Ap pn cp] 81) := ⟨_, rfl⟩
          have hbx : Below wi.heap.size wi wx := by rw [hwx]; exact Below.of_alloc _
          have HBXI := Lib.hid hbx
          have hTi : wi.heap[B]? = some (.cells #[.int .i64 a1, .int .i64 a2, .int .i64 a3, .int .i64 a4] 26 (0, 0)) := (HB.out.block B HBL.out).trans HTW.out
          have hTx : wx.heap[B]? = some (.cells #[.int .i64 a1, .int .i64 a2, .int .i64 a3, .int .i64 a4] 26 (0, 0)) := (hbx.block B (by have := HBL.out; have := HB.out.size; omega)).trans hTi
          have t0 : wi.cell? ⟨B, 0, none⟩ = some (.int .i64 a1) := cell_of_row wi _ 0 _ _ _ hTi; have s0 : wx.cell? ⟨B, 0, none⟩ = some (.int .i64 a1) := cell_of_row wx _ 0 _ _ _ hTx; have t1 : wi.cell? ⟨B, 1, none⟩ = some (.int .i64 a2) := cell_of_row wi _ 1 _ _ _ hTi; have s1 : wx.cell? ⟨B, 1, none⟩ = some (.int .i64 a2) := cell_of_row wx _ 1 _ _ _ hTx; have t2 : wi.cell? ⟨B, 2, none⟩ = some (.int .i64 a3) := cell_of_row wi _ 2 _ _ _ hTi; have s2 : wx.cell? ⟨B, 2, none⟩ = some (.int .i64 a3) := cell_of_row wx _ 2 _ _ _ hTx; have t3 : wi.cell? ⟨B, 3, none⟩ = some (.int .i64 a4) := cell_of_row wi _ 3 _ _ _ hTi; have s3 : wx.cell? ⟨B, 3, none⟩ = some (.int .i64 a4) := cell_of_row wx _ 3 _ _ _ hTx
          have s0' := s0
          have s1' := s1
          have s2' := s2
          have s3' := s3
          rw [hwx] at s0' s1' s2' s3'
          have hbxh : wx.heap[wi.heap.size]? = some (.cells #[.int .i64 r1, .int .i64 r2, .int .i64 r3, .int .i64 r4, .slice Ap pn cp] 81 (0, 0)) := by rw [hwx]; exact heap_alloc_new _ _
          have HBXH := Lib.hid hbxh
          have HLX : Hid (wi.heap.size < wx.heap.size) := Lib.hid (by rw [hwx]; simp)
          have KO := KO wx
          clear hss hck2 hvo hbx hTi hTx hbxh
          go_wp2_with fail
          rw [← hwx]
          clear hwx g0 g1 g2 g3 g4 s0' s1' s2' s3' t0 t1 t2 t3
          (with_reducible refine KO.mono ?_)
          rintro _ wy ⟨rfl, hy3⟩
          have HYI : Hid (Below wi.heap.size wi wy) := Lib.hid (HBXI.out.trans (hy3.mono HBXI.out.size))
          have HBY : Hid (Below W.heap.size W wy) := Lib.hid (HB.out.trans (HYI.out.mono HB.out.size))
          have hyh := (hy3.block wi.heap.size HLX.out).trans HBXH.out
          have q4 : wy.cell? ⟨wi.heap.size, 4, none⟩ = some (.slice Ap pn cp) := cell_of_row wy _ 4 _ _ _ hyh
          have HO1 : Hid (OwnP wy W.heap.size u6 Q) := Lib.hid (own_below HO.out HYI.out)
          have HR1 : Hid (∀ p ∈ Q, VerIs wy (fun b => b < wy.heap.size ∧ some b ≠ Value.ownBlock u6) p.1 p.2) := Lib.hid (fun p hp => ((HR.out p hp).keep (fun b hb => HYI.out.block b hb.1)).wide (fun b hb => ⟨Nat.lt_of_lt_of_le hb.1 HYI.out.size, hb.2⟩))
          clear hy3 hyh KO s0 s1 s2 s3
          cases vo
          case false =>
            have HQN : Hid (Q.map (·.2) = (((cs.take (k + 1)).filter (fun c => ovlR (bndF c) (⟨a1, a2, a3, a4⟩ : Rec))).flatMap (fun c => c.filter (fun x => ovlR (recOf x) (⟨a1, a2, a3, a4⟩ : Rec))))) := Lib.hid (by rw [HSS.out, HQ.out]; simp)
            have HMN : Hid (m = ((cs.take (k + 1)).filter (fun c => ovlR (bndF c) (⟨a1, a2, a3, a4⟩ : Rec))).length) := Lib.hid (by rw [HSS.out, HMM.out]; simp)
            go_wp2_with fail
            go_roundw
            case rel => exact ⟨k + 1, m, Q, rfl, by go_num, by omega, by omega, HO1, HR1, HQN, HMN, HBY⟩
            case measure => simp [intOf]; omega
          case true =>
            have HQ1 : Hid (Q.map (·.2) = (((cs.take k).filter (fun c => ovlR (bndF c) (⟨a1, a2, a3, a4⟩ : Rec))).flatMap (fun c => c.filter (fun x => ovlR (recOf x) (⟨a1, a2, a3, a4⟩ : Rec)))) ++ ((qs.take 0).map (·.2)).filter (fun x => ovlR (recOf x) (⟨a1, a2, a3, a4⟩ : Rec))) := Lib.hid (by rw [HQ.out]; simp)
            have HMN : Hid (m + 1 = ((cs.take (k + 1)).filter (fun c => ovlR (bndF c) (⟨a1, a2, a3, a4⟩ : Rec))).length) := Lib.hid (by rw [HSS.out, List.length_append, HMM.out]; simp)
            have hml : m + 1 ≤ 9223372036854775807 := by omega
            clear HO HR HQ
            go_wp2_with fail
            go_loopw [6, 45] (fun o i wr => ∃ (j : Nat) (Q : List VP), i = .int .i64 (j : Int) ∧ j ≤ pn ∧ Hid (OwnP wr W.heap.size o Q) ∧ Hid (∀ p ∈ Q, VerIs wr (fun b => b < wr.heap.size ∧ some b ≠ Value.ownBlock o) p.1 p.2) ∧ Hid (Q.map (·.2) = (((cs.take k).filter (fun c => ovlR (bndF c) (⟨a1, a2, a3, a4⟩ : Rec))).flatMap (fun c => c.filter (fun x => ovlR (recOf x) (⟨a1, a2, a3, a4⟩ : Rec)))) ++ ((qs.take j).map (·.2)).filter (fun x => ovlR (recOf x) (⟨a1, a2, a3, a4⟩ : Rec))) ∧ Hid (Below W.heap.size W wr)) (fun _ i _ => pn - (intOf i).toNat)
            case atStart => exact ⟨0, Q, rfl, Nat.zero_le _, HO1, HR1, HQ1, HBY⟩
            case round =>
              clear HO1 HR1 HBY HQ1 HB
              obtain ⟨j, Q', rfl, hj, HO, HR, HQ, HB⟩ := hrel
              obtain ⟨Q, rfl⟩ : ∃ Q, Q = Q' := ⟨_, rfl⟩
              obtain ⟨wq, rfl⟩ : ∃ wq : World, wq = wr := ⟨_, rfl⟩
              by_cases hltj : j < pn
              case neg =>
                have HQN : Hid (Q.map (·.2) = (((cs.take (k + 1)).filter (fun c => ovlR (bndF c) (⟨a1, a2, a3, a4⟩ : Rec))).flatMap (fun c => c.filter (fun x => ovlR (recOf x) (⟨a1, a2, a3, a4⟩ : Rec))))) := Lib.hid (by
                  rw [HSS.out, HQ.out, show qs.take j = qs from List.take_of_length_le (by have := HPN.out; omega), List.flatMap_append]
                  simp)
                go_wp2_with fail
                go_roundw
                case rel => exact ⟨k + 1, m + 1, Q, by go_num, by go_num, by omega, by omega, HO, HR, HQN, HMN, HB⟩
                case measure => simp [intOf]; omega
              case pos =>
                have hxq : RdVs wq (· < wq.heap.size) (.slice Ap qs.length cp) qs := by have h := HXX.out.below HB.out; rw [HPN.out] at h; exact h
                obtain ⟨bb, bo, rfl, hFb, hxc, hxv⟩ := RdVs.at_ hxq (k := j) (by have := HPN.out; omega)
                have hrj := HRK.out _ (List.mem_map_of_mem (List.getElem_mem (show j < qs.length by have := HPN.out; omega)))
                have htj := List.take_succ_eq_append_getElem (l := qs) (i := j) (by have := HPN.out; omega)
                generalize qs[j]'(by have := HPN.out; omega) = p at *
                obtain ⟨⟨x1, x2, xA, xn, xc, x3, x4, x5, x6, x7, x8⟩, x⟩ := p
                simp only at hxc hxv hrj
                have d0 : wq.cell? ⟨bb, bo + j * 9, none⟩ = some (.int .i64 x1) := hxc 0 _ (by decide) rfl
                have d1 : wq.cell? ⟨bb, bo + j * 9 + 1, none⟩ = some (.int .i64 x2) := hxc 1 _ (by decide) rfl
                have d2 : wq.cell? ⟨bb, bo + j * 9 + 2, none⟩ = some (.slice xA xn xc) := hxc 2 _ (by decide) rfl
                have d3 : wq.cell? ⟨bb, bo + j * 9 + 3, none⟩ = some (.int .i64 x3) := hxc 3 _ (by decide) rfl
                have d4 : wq.cell? ⟨bb, bo + j * 9 + 4, none⟩ = some (.int .i64 x4) := hxc 4 _ (by decide) rfl
                have d5 : wq.cell? ⟨bb, bo + j * 9 + 5, none⟩ = some (.int .i64 x5) := hxc 5 _ (by decide) rfl
                have d6 : wq.cell? ⟨bb, bo + j * 9 + 6, none⟩ = some (.int .i64 x6) := hxc 6 _ (by decide) rfl
                have d7 : wq.cell? ⟨bb, bo + j * 9 + 7, none⟩ = some (.int .i64 x7) := hxc 7 _ (by decide) rfl
                have d8 : wq.cell? ⟨bb, bo + j * 9 + 8, none⟩ = some (.int .i64 x8) := hxc 8 _ (by decide) rfl
                have HTJ := Lib.hid htj
                obtain ⟨wb, hwb⟩ : ∃ wb, wb = wq.alloc (.cells #[.int .i64 x1, .int .i64 x2, .slice xA xn xc, .int .i64 x3, .int .i64 x4, .int .i64 x5, .int .i64 x6, .int .i64 x7, .int .i64 x8] 61) := ⟨_, rfl⟩
                have hbb : Below wq.heap.size wq wb := by rw [hwb]; exact Below.of_alloc _
                have hbs : wq.heap.size < wb.heap.size := by rw [hwb]; simp
                have hbv : wb.heap[wq.heap.size]? = some (.cells #[.int .i64 x1, .int .i64 x2, .slice xA xn xc, .int .i64 x3, .int .i64 x4, .int .i64 x5, .int .i64 x6, .int .i64 x7, .int .i64 x8] 61 (0, 0)) := by rw [hwb]; exact heap_alloc_new _ _
                have HBV := Lib.hid hbv
                have HBB := Lib.hid hbb
                have HXV : Hid (VerIs wb (· < wb.heap.size) (⟨x1, x2, xA, xn, xc, x3, x4, x5, x6, x7, x8⟩ : RV) x) := Lib.hid ((hxv.keep (Keeps.below hbb)).wide (fun b (hb : b < wq.heap.size) => by show b < wb.heap.size; omega))
                clear hxc hxv htj hbv hbb hxq
                obtain ⟨Ao, co, rfl, o1, o2, o3⟩ := Rd.open_ (Rd.of_own HO.out)
                unfold maxLen at o2
                have hQl : Q.length ≤ 1048576 := by
                  have e := congrArg List.length HQ.out
                  rw [List.length_map, List.length_append] at e
                  have hk2 : k < cs.length := by have := HCL.out; omega
                  have l1 : ((((cs.take k).filter (fun c => ovlR (bndF c) (⟨a1, a2, a3, a4⟩ : Rec))).flatMap (fun c => c.filter (fun x => ovlR (recOf x) (⟨a1, a2, a3, a4⟩ : Rec))))).length ≤ ((cs.take k).flatten).length := filt_len _ _ _
                  have l2 : (((qs.take j).map (·.2)).filter (fun x => ovlR (recOf x) (⟨a1, a2, a3, a4⟩ : Rec))).length ≤ qs.length := by
                    have := List.length_filter_le (fun x => ovlR (recOf x) (⟨a1, a2, a3, a4⟩ : Rec)) ((qs.take j).map (·.2))
                    rw [List.length_map, List.length_take] at this
                    omega
                  have e2 := take_flat hk2
                  rw [HCK2.out] at e2
                  have e3 : ((cs.take (k + 1)).flatten).length ≤ cs.flatten.length := by
                    conv => rhs; rw [← List.take_append_drop (k + 1) cs]
                    rw [List.flatten_append, List.length_append]; omega
                  rw [e2, List.length_append, List.length_map] at e3
                  have := HNN.out
                  omega
                have hTb : wb.heap[B]? = some (.cells #[.int .i64 a1, .int .i64 a2, .int .i64 a3, .int .i64 a4] 26 (0, 0)) := (HBB.out.block B (by have := HBL.out; have := HB.out.size; omega)).trans ((HB.out.block B HBL.out).trans HTW.out)
                have HTB := Lib.hid hTb
                have HLB : Hid (B < wb.heap.size) := Lib.hid (by have := HBL.out; have := HB.out.size; omega)
                obtain ⟨vi, hvi⟩ : ∃ bo, bo = ovlR (recOf x) (⟨a1, a2, a3, a4⟩ : Rec) := ⟨_, rfl⟩
                have hrx : recOf x = ⟨x3, x4, x5, x6⟩ := by unfold recOf; rw [← HXV.out.vf, ← HXV.out.vt, ← HXV.out.sf, ← HXV.out.st]
                have KOV := fun V => regOvl_any x3 x4 x5 x6 a1 a2 a3 a4 V
                rw [← hrx, ← hvi] at KOV
                have HVI := Lib.hid hvi
                clear o3 hTb hrx hvi
                go_wp2_with fail
                rw [← hwb]
                clear hwb d0 d1 d2 d3 d4 d5 d6 d7 d8
                refine wp_region_noPanic ?_
                refine wp_region_held_drew (S := (fun w' => Below wb.heap.size wb w')) (by kernel_rfl) ?_ (fun hHeld => ?_)
                · exact (Below.refl _ _).drew
                refine heldTake 0 (some 49) (v := ?_) rfl rfl (by kernel_rfl) (by kernel_rfl) (by kernel_rfl) (by rfl) hHeld (fun _ _ _ h => h) ?_ ?_
                rotate_left
                · intro w' hSw; (try dsimp only at hSw); have q0 : w'.cell? ⟨wq.heap.size, 0, none⟩ = some (.int .i64 x1) := (World.cell?_of_block (hSw.block wq.heap.size hbs)).trans (cell_of_row wb wq.heap.size 0 _ _ _ HBV.out); have q1 : w'.cell? ⟨wq.heap.size, 1, none⟩ = some (.int .i64 x2) := (World.cell?_of_block (hSw.block wq.heap.size hbs)).trans (cell_of_row wb wq.heap.size 1 _ _ _ HBV.out); have q2 : w'.cell? ⟨wq.heap.size, 2, none⟩ = some (.slice xA xn xc) := (World.cell?_of_block (hSw.block wq.heap.size hbs)).trans (cell_of_row wb wq.heap.size 2 _ _ _ HBV.out); have q3 : w'.cell? ⟨wq.heap.size, 3, none⟩ = some (.int .i64 x3) := (World.cell?_of_block (hSw.block wq.heap.size hbs)).trans (cell_of_row wb wq.heap.size 3 _ _ _ HBV.out); have q4 : w'.cell? ⟨wq.heap.size, 4, none⟩ = some (.int .i64 x4) := (World.cell?_of_block (hSw.block wq.heap.size hbs)).trans (cell_of_row wb wq.heap.size 4 _ _ _ HBV.out); have q5 : w'.cell? ⟨wq.heap.size, 5, none⟩ = some (.int .i64 x5) := (World.cell?_of_block (hSw.block wq.heap.size hbs)).trans (cell_of_row wb wq.heap.size 5 _ _ _ HBV.out); have q6 : w'.cell? ⟨wq.heap.size, 6, none⟩ = some (.int .i64 x6) := (World.cell?_of_block (hSw.block wq.heap.size hbs)).trans (cell_of_row wb wq.heap.size 6 _ _ _ HBV.out); have q7 : w'.cell? ⟨wq.heap.size, 7, none⟩ = some (.int .i64 x7) := (World.cell?_of_block (hSw.block wq.heap.size hbs)).trans (cell_of_row wb wq.heap.size 7 _ _ _ HBV.out); have q8 : w'.cell? ⟨wq.heap.size, 8, none⟩ = some (.int .i64 x8) := (World.cell?_of_block (hSw.block wq.heap.size hbs)).trans (cell_of_row wb wq.heap.size 8 _ _ _ HBV.out); go_simp <;> with_reducible rfl
                simp only [Act.put, List.setIfInBounds_toArray, List.set_cons_zero, List.set_cons_succ]
                refine heldTake 2 (some 51) (v := ?_) rfl rfl (by kernel_rfl) (by kernel_rfl) (by kernel_rfl) (by rfl) hHeld (fun _ _ _ h => h) ?_ ?_
                rotate_left
                · intro w' hSw; (try dsimp only at hSw); have q0 : w'.cell? ⟨B, 0, none⟩ = some (.int .i64 a1) := (World.cell?_of_block (hSw.block B HLB.out)).trans (cell_of_row wb B 0 _ _ _ HTB.out); have q1 : w'.cell? ⟨B, 1, none⟩ = some (.int .i64 a2) := (World.cell?_of_block (hSw.block B HLB.out)).trans (cell_of_row wb B 1 _ _ _ HTB.out); have q2 : w'.cell? ⟨B, 2, none⟩ = some (.int .i64 a3) := (World.cell?_of_block (hSw.block B HLB.out)).trans (cell_of_row wb B 2 _ _ _ HTB.out); have q3 : w'.cell? ⟨B, 3, none⟩ = some (.int .i64 a4) := (World.cell?_of_block (hSw.block B HLB.out)).trans (cell_of_row wb B 3 _ _ _ HTB.out); go_simp <;> with_reducible rfl
                simp only [Act.put, List.setIfInBounds_toArray, List.set_cons_zero, List.set_cons_succ]
                refine heldCall 1 (some 50) (f := ?_) (args := ?_) rfl rfl (by kernel_rfl) (by rfl) ?_ ?_
                rotate_left 2
                · go_simp <;> first | (constructor <;> with_reducible rfl) | with_reducible rfl
                (with_reducible refine (segRect_any _ _ _ _ _ _ _ _ _ _ _ _).mono ?_)
                rintro _ z1 ⟨rfl, hz1'⟩
                have hz1 : Below wb.heap.size wb z1 := Below.undrew hz1'
                refine ⟨_, rfl, keepAnd ?_ (fun hNew => ?_)⟩
                · exact hz1
                clear hHeld
                have hHeld := hNew
                clear hNew
                simp only [Act.put, List.setIfInBounds_toArray, List.set_cons_zero, List.set_cons_succ]
                refine heldCall 3 (some 52) (f := ?_) (args := ?_) rfl rfl (by kernel_rfl) (by rfl) ?_ ?_
                rotate_left 2
                · go_simp <;> first | (constructor <;> with_reducible rfl) | with_reducible rfl
                (with_reducible refine (KOV z1).mono ?_)
                rintro _ z2 ⟨rfl, hz2'⟩
                have hz2 : Below wb.heap.size wb z2 := hz1.trans (hz2'.mono hz1.size)
                refine ⟨_, rfl, keepAnd ?_ (fun hNew => ?_)⟩
                · exact hz2
                clear hHeld
                have hHeld := hNew
                clear hNew
                simp only [Act.put, List.setIfInBounds_toArray, List.set_cons_zero, List.set_cons_succ]
                refine wpAnyH_done (by kernel_rfl) ?_ _
                refine NoPanic.normal ?_
                clear hHeld
                have HZ2i : Hid (Below wb.heap.size wb z2) := Lib.hid hz2
                have HZQ : Hid (Below wq.heap.size wq z2) := Lib.hid (HBB.out.trans (hz2.mono HBB.out.size))
                have HZB : Hid (Below W.heap.size W z2) := Lib.hid (HB.out.trans (HZQ.out.mono HB.out.size))
                have HJN : Hid (j + 1 ≤ pn) := Lib.hid hltj
                have hzv := (hz2.block wq.heap.size hbs).trans HBV.out
                have d0 : z2.cell? ⟨wq.heap.size, 0, none⟩ = some (.int .i64 x1) := cell_of_row z2 _ 0 _ _ _ hzv; have d1 : z2.cell? ⟨wq.heap.size, 1, none⟩ = some (.int .i64 x2) := cell_of_row z2 _ 1 _ _ _ hzv; have d2 : z2.cell? ⟨wq.heap.size, 2, none⟩ = some (.slice xA xn xc) := cell_of_row z2 _ 2 _ _ _ hzv; have d3 : z2.cell? ⟨wq.heap.size, 3, none⟩ = some (.int .i64 x3) := cell_of_row z2 _ 3 _ _ _ hzv; have d4 : z2.cell? ⟨wq.heap.size, 4, none⟩ = some (.int .i64 x4) := cell_of_row z2 _ 4 _ _ _ hzv; have d5 : z2.cell? ⟨wq.heap.size, 5, none⟩ = some (.int .i64 x5) := cell_of_row z2 _ 5 _ _ _ hzv; have d6 : z2.cell? ⟨wq.heap.size, 6, none⟩ = some (.int .i64 x6) := cell_of_row z2 _ 6 _ _ _ hzv; have d7 : z2.cell? ⟨wq.heap.size, 7, none⟩ = some (.int .i64 x7) := cell_of_row z2 _ 7 _ _ _ hzv; have d8 : z2.cell? ⟨wq.heap.size, 8, none⟩ = some (.int .i64 x8) := cell_of_row z2 _ 8 _ _ _ hzv
                clear hz1 hz2 hz1' hz2' hzv KOV
                cases vi
                case false =>
                  have HQN : Hid (Q.map (·.2) = (((cs.take k).filter (fun c => ovlR (bndF c) (⟨a1, a2, a3, a4⟩ : Rec))).flatMap (fun c => c.filter (fun x => ovlR (recOf x) (⟨a1, a2, a3, a4⟩ : Rec)))) ++ ((qs.take (j + 1)).map (·.2)).filter (fun x => ovlR (recOf x) (⟨a1, a2, a3, a4⟩ : Rec))) := Lib.hid (by
                    rw [HQ.out, HTJ.out, List.map_append, List.filter_append]
                    simp [← HVI.out])
                  have HOF : Hid (OwnP z2 W.heap.size (.slice Ao Q.length co) Q) := Lib.hid (own_below HO.out HZQ.out)
                  have HRF : Hid (∀ p ∈ Q, VerIs z2 (fun b => b < z2.heap.size ∧ some b ≠ Value.ownBlock (.slice Ao Q.length co)) p.1 p.2) := Lib.hid (fun p hp => ((HR.out p hp).keep (fun b hb => HZQ.out.block b hb.1)).wide (fun b hb => ⟨Nat.lt_of_lt_of_le hb.1 HZQ.out.size, hb.2⟩))
                  go_wp2_with fail
                  go_roundw
                  case rel => exact ⟨j + 1, Q, by go_num, HJN.out, HOF, HRF, HQN, HZB⟩
                  case measure => have := HJN.out; simp [intOf]; omega
                case true =>
                  have HQN : Hid (∀ r : RV, (Q ++ [((r, x) : VP)]).map (·.2) = (((cs.take k).filter (fun c => ovlR (bndF c) (⟨a1, a2, a3, a4⟩ : Rec))).flatMap (fun c => c.filter (fun x => ovlR (recOf x) (⟨a1, a2, a3, a4⟩ : Rec)))) ++ ((qs.take (j + 1)).map (·.2)).filter (fun x => ovlR (recOf x) (⟨a1, a2, a3, a4⟩ : Rec))) := Lib.hid (fun r => by
                    rw [List.map_append, HQ.out, HTJ.out, List.map_append, List.filter_append]
                    simp [← HVI.out])
                  have KCL := clone_ver x1 x2 xA xn xc x3 x4 x5 x6 x7 x8 x z2 ((HXV.out.keep (Keeps.below HZ2i.out)).wide (fun b (hb : b < wb.heap.size) => by show b < z2.heap.size; have := HZ2i.out.size; omega)) (by omega)
                  have HPRE := HZQ
                  have HLW : Hid (wq.heap.size ≤ z2.heap.size) := Lib.hid HZQ.out.size
                  go_wp2_with fail
                  (with_reducible refine KCL.mono ?_)
                  rintro _ w2 ⟨yA, yc, rfl, hX2, hb2⟩
                  have HX2 : Hid (VerIs w2 (fun b => wq.heap.size ≤ b ∧ b < w2.heap.size) (⟨x1, x2, yA, xn, yc, x3, x4, x5, x6, x7, x8⟩ : RV) x) := Lib.hid (hX2.wide (fun b hb => ⟨by have := HLW.out; omega, hb.2⟩))
                  have HB2i : Hid (Below wq.heap.size wq w2) := Lib.hid (HPRE.out.trans (hb2.mono HLW.out))
                  clear hX2 hb2 KCL
                  have HOA : Hid (OwnP (w2.alloc (.cells #[.int .i64 x1, .int .i64 x2, .slice yA xn yc, .int .i64 x3, .int .i64 x4, .int .i64 x5, .int .i64 x6, .int .i64 x7, .int .i64 x8] 61)) W.heap.size (.slice Ao Q.length co) Q) := Lib.hid (World.ownsRow.alloc (own_below HO.out HB2i.out) _)
                  have hnew : Rd (w2.alloc (.cells #[.int .i64 x1, .int .i64 x2, .slice yA xn yc, .int .i64 x3, .int .i64 x4, .int .i64 x5, .int .i64 x6, .int .i64 x7, .int .i64 x8] 61)) (· = w2.heap.size) 9 (.slice (some ⟨w2.heap.size, 0, none⟩) 1 1) 1 [.int .i64 x1, .int .i64 x2, .slice yA xn yc, .int .i64 x3, .int .i64 x4, .int .i64 x5, .int .i64 x6, .int .i64 x7, .int .i64 x8] := Rd.new' w2 w2.heap.size rfl [.int .i64 x1, .int .i64 x2, .slice yA xn yc, .int .i64 x3, .int .i64 x4, .int .i64 x5, .int .i64 x6, .int .i64 x7, .int .i64 x8] 61 9 1 rfl (by decide)
                  have HNEW := Lib.hid hnew
                  have HOL : Hid (∀ b, some b = (Value.slice Ao Q.length co).ownBlock → W.heap.size ≤ b ∧ b < wq.heap.size) := Lib.hid (fun b hb => by
                    obtain ⟨g1, _, g2⟩ := own_block HO.out hb
                    exact ⟨g1, (Array.getElem?_eq_some_iff.1 g2).1⟩)
                  have HWW : Hid (W.heap.size ≤ w2.heap.size) := Lib.hid (by have h1 := HB.out.size; have h2 := HB2i.out.size; omega)
                  have hw2 : W.heap.size ≤ w2.heap.size := HWW.out
                  clear hnew
                  go_wp2_with (at_builtin; refine wpList_append_app (w2.alloc (.cells #[.int .i64 x1, .int .i64 x2, .slice yA xn yc, .int .i64 x3, .int .i64 x4, .int .i64 x5, .int .i64 x6, .int .i64 x7, .int .i64 x8] 61)) rfl (.tmp 53) (.tmp 56) 22 rfl W.heap.size 61 i0 _ 9 88 Tryz.underlying22 HI.out HZ0.out HZ1.out HZ2.out rfl (by omega) (.slice Ao Q.length co) Q.length (cellsP Q) rfl (.inl HOA.out) (· = w2.heap.size) _ 1 [.int .i64 x1, .int .i64 x2, .slice yA xn yc, .int .i64 x3, .int .i64 x4, .int .i64 x5, .int .i64 x6, .int .i64 x7, .int .i64 x8] rfl HNEW.out ((⟨x1, x2, yA, xn, yc, x3, x4, x5, x6, x7, x8⟩ : RV).enc_one) (by unfold maxLen; omega) (by omega) (by simp; omega) ?_; intro v5 w5 _ hO5 hg5 hb5 hv5)
                  all_goals skip
                  have hO5' : OwnP w5 W.heap.size v5 (Q ++ [(((⟨x1, x2, yA, xn, yc, x3, x4, x5, x6, x7, x8⟩ : RV), x) : VP)]) := by
                    have h := hO5 (.inl (by omega))
                    unfold OwnP
                    rw [List.length_append, cellsP_append]
                    exact h
                  have hs5 : w2.heap.size + 1 ≤ w5.heap.size := by have := hg5.size; simpa using this
                  have hs2 : wq.heap.size ≤ w2.heap.size := HB2i.out.size
                  have hbk : ∀ b, b < w2.heap.size → some b ≠ (Value.slice Ao Q.length co).ownBlock → w5.heap[b]? = w2.heap[b]? := fun b hb hne => (hg5.block b (by simp; omega) hne).trans ((Below.of_alloc (w := w2) (.cells #[.int .i64 x1, .int .i64 x2, .slice yA xn yc, .int .i64 x3, .int .i64 x4, .int .i64 x5, .int .i64 x6, .int .i64 x7, .int .i64 x8] 61)).block b hb)
                  have HR5 : Hid (∀ p ∈ Q ++ [(((⟨x1, x2, yA, xn, yc, x3, x4, x5, x6, x7, x8⟩ : RV), x) : VP)], VerIs w5 (fun b => b < w5.heap.size ∧ some b ≠ Value.ownBlock v5) p.1 p.2) := Lib.hid (fun p hp => by
                    rcases List.mem_append.1 hp with hp | hp
                    · refine ((HR.out p hp).keep (w' := w5) (fun b hb => ?_)).wide (fun b hb => ?_)
                      · exact (hbk b (by omega) hb.2).trans (HB2i.out.block b hb.1)
                      · refine ⟨by omega, ?_⟩
                        rcases hv5 with hv5 | hv5
                        · rw [hv5]; exact hb.2
                        · rw [hv5]; simp; omega
                    · rw [List.mem_singleton] at hp
                      subst hp
                      refine ((HX2.out).keep (w' := w5) (fun b hb => ?_)).wide (fun b hb => ?_)
                      · exact hbk b hb.2 (fun e => by have := (HOL.out b e).2; omega)
                      · refine ⟨by omega, ?_⟩
                        rcases hv5 with hv5 | hv5
                        · rw [hv5]; exact fun e => by have := (HOL.out b e).2; omega
                        · rw [hv5]; simp; omega)
                  have HB5 : Hid (Below W.heap.size W w5) := Lib.hid (((HB.out.trans (HB2i.out.mono HB.out.size)).alloc HWW.out _).trans hb5)
                  have HO6 := Lib.hid hO5'
                  clear hO5 hO5' hg5 hb5 hv5 hbk
                  go_wp2_with fail
                  go_roundw
                  case rel => exact ⟨j + 1, _, by go_num, HJN.out, HO6, HR5, Lib.hid (HQN.out _), HB5⟩
                  case measure => have := HJN.out; simp [intOf]; omega
end Go.Proofs.YtacjiocffbgkkaaGreat
