/-
  Readers: lists of versions; DecodeVersions.
-/
import Derived.Test.YtacjiocffbgkkaaGreatSrcB
namespace Go.Proofs.YtacjiocffbgkkaaGreat
open Go.RowKit Go.Lib Go.IntWalk Go.Sort Go.Shelf

def getS {α : Type} (one : Int × Int → α × Int × Int) : Nat → Int × Int → List α × Int × Int
  | 0, s => ([], s)
  | n + 1, s => if s.2 ≠ 0 then ([], s) else ((one s).1 :: (getS one n (one s).2).1, (getS one n (one s).2).2)
theorem getS_stop {α : Type} {one : Int × Int → α × Int × Int} {n : Nat} {s : Int × Int} (h : n = 0 ∨ s.2 ≠ 0) : getS one n s = ([], s) := by
  cases n with
  | zero => rfl
  | succ n => rcases h with h | h
              · omega
              · exact if_pos h
theorem getS_step {α : Type} {one : Int × Int → α × Int × Int} {n : Nat} {s s' : Int × Int} {a : α} (h : s.2 = 0) (h1 : one s = (a, s')) : getS one (n + 1) s = (a :: (getS one n s').1, (getS one n s').2) := by
  rw [getS, if_neg (by simpa using h), h1]
def rdVs (l : List UInt8) (s : Int × Int) : List Ver × Int × Int :=
  if (rdI l s).2.2 = 0 ∧ (rdI l s).1 < 0 then ([], (rdI l s).2.1, 1) else getS (rdVer l) (rdI l s).1.toNat (rdI l s).2
def GetOut (R : Nat) (v : Value) (res : List Ver × Int × Int) (w0 : World) (e : Ending) (w : World) : Prop :=
  ∃ u Q, e = .returned u ∧ RdVs w (fun b => R < b ∧ b < w.heap.size) u Q ∧ Q.map (·.2) = res.1 ∧ SrcAt w R v res.2 ∧ Chg (· = R) w0 w
theorem rdI_err {l : List UInt8} {s : Int × Int} (h : (rdI l s).2.2 ≠ 0) : (rdI l s).1 = 0 := by
  unfold rdI rdS at h ⊢
  split
  · rfl
  · rename_i h0
    rw [if_neg h0] at h
    split
    · rename_i h1; rw [if_pos h1] at h; exact absurd rfl h
    · rename_i h1; exact decI_err h1

set_option maxRecDepth 1000000 in
set_option maxHeartbeats 4000000 in
theorem get_any (R : Nat) (v : Value) (l : List UInt8) (s : Int × Int) (w : World) (h : SrcAt w R v s) (hv : RdB w (· < R) v l) (hl : l.length ≤ 1048576) :
    Calls Tryz.prog 59 #[.pointer (some ⟨R, 0, none⟩), .func (.func 60) #[] #[]] w (GetOut R v (rdVs l s) w) := by
  rcases h1 : rdI l s with ⟨n, k1, e1⟩
  have hR := h.lt
  have hvW : ∀ V, Chg (· = R) w V → RdB V (· < R) v l := fun V hV => Rd.keep hv (fun b (hb : b < R) => hV.block b (by omega) (by omega))
  have KI : Calls Tryz.prog 101 #[.pointer (some ⟨R, 0, none⟩)] w fun x w' => x = .returned (.int .i64 n) ∧ SrcAt w' R v (k1, e1) ∧ Chg (· = R) w w' := by
    have k := srcInt_any R v l s w h hv
    rw [h1] at k
    exact k
  have KV : ∀ s x s' V, rdVer l s = (x, s') → SrcAt V R v s → Chg (· = R) w V → Calls Tryz.prog 60 #[.pointer (some ⟨R, 0, none⟩)] V fun e w' => ∃ x1 x2 xA xn xc x3 x4 x5 x6 x7 x8, e = .returned (.agg #[.int .i64 x1, .int .i64 x2, .slice xA xn xc, .int .i64 x3, .int .i64 x4, .int .i64 x5, .int .i64 x6, .int .i64 x7, .int .i64 x8]) ∧ VerIs w' (fun b => V.heap.size ≤ b ∧ b < w'.heap.size) (⟨x1, x2, xA, xn, xc, x3, x4, x5, x6, x7, x8⟩ : RV) x ∧ SrcAt w' R v s' ∧ Chg (· = R) V w' := fun s x s' V he hs hV => by
    have k := srcVersion_any R v l s V hs (hvW V hV)
    rw [he] at k
    exact k.mono fun e w' ⟨r, a1, a2, a3, a4⟩ => ⟨r.id, r.sch, r.rA, r.rn, r.rc, r.vf, r.vt, r.sf, r.st, r.by_, r.un, a1, a2, a3, a4⟩
  clear h hv
  by_cases hneg : e1 = 0 ∧ n < 0
  case pos =>
    obtain ⟨rfl, hn⟩ := hneg
    rw [show rdVs l s = ([], k1, 1) from by unfold rdVs; rw [h1]; exact if_pos ⟨rfl, hn⟩]
    clear KV hvW h1
    go_enter Tryz.func59, Tryz.ntmps59
    go_wp2_with fail
    (with_reducible refine KI.mono ?_)
    rintro _ w1 ⟨rfl, hs1, hc1⟩
    have c2 : w1.cell? ⟨R, 2, none⟩ = some (.int .i64 0) := cell_of_row w1 R 2 _ _ _ hs1
    have f2 : w1.frozen? ⟨R, 2, none⟩ = false := frozen_of_row w1 R 2 _ _ hs1
    have HS1 := Lib.hid hs1
    have HC1 := Lib.hid hc1
    clear hs1 hc1 KI
    go_wp2_with fail
    go_loopw [6, 7] (fun o i wr => o = .slice none 0 0 ∧ i = .int .i64 0 ∧ wr = w1.setCell ⟨R, 2, none⟩ (.int .i64 1)) (fun _ _ _ => 0)
    case atStart => exact ⟨rfl, rfl, rfl⟩
    case round =>
      obtain ⟨rfl, rfl, hw⟩ := hrel
      rw [hw]
      clear hw
      have hnn : ¬ (0 : Int) < n := by omega
      go_wp2_with fail
      go_ret
      exact ⟨_, [], rfl, ⟨Rd.nil _ _ _, fun p hp => by cases hp⟩, rfl, HS1.out.set2 1, Chg.setCell (S := (· = R)) (p := ⟨R, 2, none⟩) HC1.out (.inl rfl) _⟩
  case neg =>
    have hn0 : 0 ≤ n := by
      by_cases he : e1 = 0
      · have : ¬ n < 0 := fun h => hneg ⟨he, h⟩
        omega
      · have := rdI_err (l := l) (s := s) (by rw [h1]; exact he)
        rw [h1] at this
        simp only at this
        omega
    obtain ⟨N, rfl⟩ := Int.eq_ofNat_of_zero_le hn0
    have hbd := decI_bd l s.1
    have hN : (N : Int) ≤ 9223372036854775807 := by
      have e : (N : Int) = (rdI l s).1 := by rw [h1]
      rw [e]
      unfold rdI rdS
      split
      · omega
      · split <;> exact hbd.2.1
    have hk1 : e1 = 0 → 0 ≤ k1 ∧ k1 ≤ l.length := fun he => by
      subst he
      have g := rdI_mono h1
      obtain ⟨a, r, hl2, _, hm⟩ := decI_got g.2.2
      have : l.length = (a ++ encI N).length + r.length := by rw [hl2]; simp [Nat.add_assoc]
      omega
    rw [show rdVs l s = getS (rdVer l) N (k1, e1) from by unfold rdVs; rw [h1]; exact if_neg hneg]
    obtain ⟨res, hres⟩ : ∃ r, r = getS (rdVer l) N (k1, e1) := ⟨_, rfl⟩
    rw [← hres]
    have HRES := Lib.hid hres
    have HNEG := Lib.hid hneg
    have HK1 := Lib.hid hk1
    obtain ⟨i0, hi, hz0, hz1, hz2⟩ := info_parts infoVer
    have HI := Lib.hid hi
    have HZ0 := Lib.hid hz0
    have HZ1 := Lib.hid hz1
    have HZ2 := Lib.hid hz2
    have KK := Lib.hid KV
    clear hi hz0 hz1 hz2 hres hneg hk1 hbd h1 KV hvW hn0
    go_enter Tryz.func59, Tryz.ntmps59
    go_wp2_with fail
    (with_reducible refine KI.mono ?_)
    rintro _ w1 ⟨rfl, hs1, hc1⟩
    have c2 : w1.cell? ⟨R, 2, none⟩ = some (.int .i64 e1) := cell_of_row w1 R 2 _ _ _ hs1
    have HS1 := Lib.hid hs1
    have HC1 := Lib.hid hc1
    clear hs1 hc1 KI
    have hcond : e1 = 0 → ¬ (N : Int) < 0 := fun _ => by omega
    have hN0 : ¬ (N : Int) < 0 := by omega
    go_wp2_with fail
    all_goals skip
    all_goals
      go_loopw [6, 7] (fun o i wr => ∃ (i' : Nat) (Q : List VP) (st : Int × Int), i = .int .i64 (i' : Int) ∧ i' ≤ N ∧ Q.length = i' ∧ Hid (OwnP wr w.heap.size o Q) ∧ Hid (∀ p ∈ Q, VerIs wr (fun b => R < b ∧ b < wr.heap.size ∧ some b ≠ Value.ownBlock o) p.1 p.2) ∧ Hid (SrcAt wr R v st) ∧ Hid (Chg (· = R) w wr) ∧ Hid ((Q.map (·.2) ++ (getS (rdVer l) (N - i') st).1, (getS (rdVer l) (N - i') st).2) = res) ∧ i' ≤ l.length + 1 ∧ (st.2 = 0 → (i' : Int) ≤ st.1 ∧ st.1 ≤ l.length)) (fun _ i _ => N - (intOf i).toNat)
      case atStart => exact ⟨0, [], (k1, e1), rfl, Nat.zero_le _, rfl, Lib.hid (World.ownsRow_nil _ _ _ _), Lib.hid (fun p hp => by cases hp), HS1, HC1, Lib.hid HRES.out.symm, by omega, HK1.out⟩
      case round =>
        obtain ⟨i', Q, ⟨k, er⟩, rfl, hi', hQl, HO, HR, HS, HC, HG, hil, hik⟩ := hrel
        obtain ⟨wi, rfl⟩ : ∃ wi : World, wi = wr := ⟨_, rfl⟩
        obtain ⟨Ao, co, rfl, o1, o2, o3⟩ := Rd.open_ (Rd.of_own HO.out)
        rw [hQl] at o1
        have HRd : Hid (RdVs wi (fun b => R < b ∧ b < wi.heap.size) (.slice Ao i' co) Q) := Lib.hid (by rw [← hQl]; exact ⟨(Rd.of_own HO.out).wide (fun b hb => ⟨Nat.lt_of_lt_of_le hR hb.1, hb.2⟩), fun p hp => (HR.out p hp).wide fun b hb => ⟨hb.1, hb.2.1⟩⟩)
        have c2 : wi.cell? ⟨R, 2, none⟩ = some (.int .i64 er) := cell_of_row wi R 2 _ _ _ HS.out
        clear o3 o2
        by_cases hlt : i' < N
        case neg =>
          have hie : i' = N := by omega
          have hil2 : ¬ (i' : Int) < (N : Int) := by omega
          have HF : Hid (res = (Q.map (·.2), (k, er))) := Lib.hid (by rw [← HG.out, getS_stop (.inl (by omega))]; simp)
          have HIE := Lib.hid hie
          go_wp2_with fail
          go_ret
          rw [HF.out]
          exact ⟨_, Q, rfl, (by first | exact HRd.out | (have h := HRd.out; rw [HIE.out] at h; exact h)), rfl, HS.out, HC.out⟩
        case pos =>
          have hil2 : (i' : Int) < (N : Int) := by omega
          by_cases her : er = 0
          case neg =>
            have HF : Hid (res = (Q.map (·.2), (k, er))) := Lib.hid (by rw [← HG.out, getS_stop (.inr her)]; simp)
            go_wp2_with fail
            go_ret
            rw [HF.out]
            exact ⟨_, Q, rfl, HRd.out, rfl, HS.out, HC.out⟩
          case pos =>
            subst her
            have hik2 := hik rfl
            simp only at hik2
            rcases hx : rdVer l (k, 0) with ⟨x, st'⟩
            have hst : st'.2 = 0 → (i' : Int) + 1 ≤ st'.1 ∧ st'.1 ≤ l.length := fun he => by
              obtain ⟨k', e'⟩ := st'
              simp only at he
              subst he
              have := rdVer_mono hx
              simp only
              omega
            have KV := KK.out (k, 0) x st' wi hx HS.out HC.out
            have hgs : getS (rdVer l) (N - i') (k, 0) = (x :: (getS (rdVer l) (N - (i' + 1)) st').1, (getS (rdVer l) (N - (i' + 1)) st').2) := by
              rw [show N - i' = (N - (i' + 1)) + 1 by omega]
              exact getS_step rfl hx
            have HGS := Lib.hid hgs
            have HST := Lib.hid hst
            have HN := Lib.hid (And.intro hil hik2)
            clear hgs hst hx hik hik2
            go_wp2_with fail
            (with_reducible refine KV.mono ?_)
            rintro _ w2 ⟨x1, x2, xA, xn, xc, x3, x4, x5, x6, x7, x8, rfl, hX, hs2, hc2⟩
            have hz2 := hc2.size
            have HX := Lib.hid hX
            have HS2 := Lib.hid hs2
            have HC2 := Lib.hid hc2
            clear hX hs2 hc2 KV
            have hRw : R < w.heap.size := hR
            have hwi : w.heap.size ≤ wi.heap.size := HC.out.size
            have hownlt : ∀ b, some b = (Value.slice Ao i' co).ownBlock → w.heap.size ≤ b ∧ b < wi.heap.size := fun b hb => by
              rw [← hQl] at hb
              obtain ⟨g1, cur, g2⟩ := own_block HO.out hb
              exact ⟨g1, (Array.getElem?_eq_some_iff.1 g2).1⟩
            have HOL := Lib.hid hownlt
            have hO2 : OwnP (w2.alloc (.cells #[.int .i64 x1, .int .i64 x2, .slice xA xn xc, .int .i64 x3, .int .i64 x4, .int .i64 x5, .int .i64 x6, .int .i64 x7, .int .i64 x8] 61)) w.heap.size (.slice Ao i' co) Q := by
              have h1 : OwnP w2 w.heap.size (.slice Ao i' co) Q := by
                have h := HO.out
                rw [hQl] at h
                exact World.ownsRow.kept (row := some R) h ⟨HC2.out.os, HC2.out.tape, HC2.out.output, HC2.out.size, fun b hb hne => HC2.out.block b hb (fun e => hne (by rw [e]))⟩ (.inr (fun e => by have := (hownlt R e.symm).1; omega))
              exact World.ownsRow.alloc h1 _
            have HOA := Lib.hid hO2
            have hnew : Rd (w2.alloc (.cells #[.int .i64 x1, .int .i64 x2, .slice xA xn xc, .int .i64 x3, .int .i64 x4, .int .i64 x5, .int .i64 x6, .int .i64 x7, .int .i64 x8] 61)) (· = w2.heap.size) 9 (.slice (some ⟨w2.heap.size, 0, none⟩) 1 1) 1 [.int .i64 x1, .int .i64 x2, .slice xA xn xc, .int .i64 x3, .int .i64 x4, .int .i64 x5, .int .i64 x6, .int .i64 x7, .int .i64 x8] := Rd.new' w2 w2.heap.size rfl [.int .i64 x1, .int .i64 x2, .slice xA xn xc, .int .i64 x3, .int .i64 x4, .int .i64 x5, .int .i64 x6, .int .i64 x7, .int .i64 x8] 61 9 1 rfl (by decide)
            have HNEW := Lib.hid hnew
            clear hnew hO2 hownlt
            have hi5 : i' ≤ 1048577 := by have := HN.out.1; omega
            go_wp2_with (at_builtin; refine wpList_append_app (w2.alloc (.cells #[.int .i64 x1, .int .i64 x2, .slice xA xn xc, .int .i64 x3, .int .i64 x4, .int .i64 x5, .int .i64 x6, .int .i64 x7, .int .i64 x8] 61)) rfl (.tmp 39) (.tmp 43) 22 rfl w.heap.size 61 i0 _ 9 88 Tryz.underlying22 HI.out HZ0.out HZ1.out HZ2.out rfl (by omega) (.slice Ao i' co) i' (cellsP Q) rfl (.inl (hQl ▸ HOA.out)) (· = w2.heap.size) _ 1 [.int .i64 x1, .int .i64 x2, .slice xA xn xc, .int .i64 x3, .int .i64 x4, .int .i64 x5, .int .i64 x6, .int .i64 x7, .int .i64 x8] rfl HNEW.out ((⟨x1, x2, xA, xn, xc, x3, x4, x5, x6, x7, x8⟩ : RV).enc_one) (by unfold maxLen; omega) (by omega) (by simp; omega) ?_; intro v3 w3 _ hO3 hg3 hb3 hv3)
            all_goals skip
            have hO3' : OwnP w3 w.heap.size v3 (Q ++ [(((⟨x1, x2, xA, xn, xc, x3, x4, x5, x6, x7, x8⟩ : RV), x) : VP)]) := by
              have h := hO3 (.inl (by omega))
              unfold OwnP
              rw [List.length_append, cellsP_append, hQl]
              exact h
            have hs3 : w2.heap.size + 1 ≤ w3.heap.size := by have := hg3.size; simpa using this
            have hbk : ∀ b, b < w2.heap.size → some b ≠ (Value.slice Ao i' co).ownBlock → w3.heap[b]? = w2.heap[b]? := fun b hb hne => (hg3.block b (by simp; omega) hne).trans ((Below.of_alloc (w := w2) (.cells #[.int .i64 x1, .int .i64 x2, .slice xA xn xc, .int .i64 x3, .int .i64 x4, .int .i64 x5, .int .i64 x6, .int .i64 x7, .int .i64 x8] 61)).block b hb)
            have hR3 : ∀ p ∈ Q ++ [(((⟨x1, x2, xA, xn, xc, x3, x4, x5, x6, x7, x8⟩ : RV), x) : VP)], VerIs w3 (fun b => R < b ∧ b < w3.heap.size ∧ some b ≠ Value.ownBlock v3) p.1 p.2 := fun p hp => by
              rcases List.mem_append.1 hp with hp | hp
              · refine ((HR.out p hp).keep (w' := w3) (fun b hb => ?_)).wide (fun b hb => ?_)
                · rw [hQl] at hb
                  exact (hbk b (by omega) hb.2.2).trans (HC2.out.block b hb.2.1 (by omega))
                · rw [hQl] at hb
                  refine ⟨hb.1, by omega, ?_⟩
                  rcases hv3 with hv3 | hv3
                  · rw [hv3]; exact hb.2.2
                  · rw [hv3]; simp; omega
              · rw [List.mem_singleton] at hp
                subst hp
                refine ((HX.out).keep (w' := w3) (fun b hb => ?_)).wide (fun b hb => ?_)
                · exact hbk b hb.2 (fun e => by have := (HOL.out b e).2; omega)
                · refine ⟨by omega, by omega, ?_⟩
                  rcases hv3 with hv3 | hv3
                  · rw [hv3]; exact fun e => by have := (HOL.out b e).2; omega
                  · rw [hv3]; simp; omega
            have hS3 : SrcAt w3 R v st' := (hbk R (by omega) (fun e => by have := (HOL.out R e).1; omega)).trans HS2.out
            have hC3 : Chg (· = R) w w3 := ((HC.out.trans HC2.out (fun _ _ h => h)).alloc _).trans (Chg.of_grown hg3) (fun b hb e => by have := (HOL.out b e).1; omega)
            have HO4 := Lib.hid hO3'
            have HR4 := Lib.hid hR3
            have HS4 := Lib.hid hS3
            have HC4 := Lib.hid hC3
            clear hO3 hO3' hg3 hb3 hv3 hbk hR3 hS3 hC3
            go_wp2_with fail
            go_roundw
            case rel =>
              refine ⟨i' + 1, Q ++ [(((⟨x1, x2, xA, xn, xc, x3, x4, x5, x6, x7, x8⟩ : RV), x) : VP)], st', by go_num, by omega, by simp [hQl], HO4, HR4, HS4, HC4, Lib.hid ?_, ?_, ?_⟩
              · rw [← HG.out, HGS.out]; simp
              · have := HN.out; omega
              · intro he; have := HST.out he; omega
            case measure => simp [intOf]; omega

theorem getS_len {l : List UInt8} : ∀ (n : Nat) (k e m : Int) (vs : List Ver), 0 ≤ k → (e = 0 → k ≤ l.length) → getS (rdVer l) n (k, e) = (vs, m, 0) → (vs.length : Int) + k ≤ m ∧ m ≤ l.length := by
  intro n
  induction n with
  | zero =>
    intro k e m vs _ hk h
    simp only [getS, Prod.mk.injEq] at h
    obtain ⟨rfl, rfl, rfl⟩ := h
    have := hk rfl
    simp
    omega
  | succ n ih =>
    intro k e m vs h0 hk h
    by_cases he : e = 0
    · subst he
      rcases hx : rdVer l (k, 0) with ⟨x, k2, e2⟩
      rw [getS_step rfl hx] at h
      rcases hg : getS (rdVer l) n (k2, e2) with ⟨ys, m2, e3⟩
      rw [hg] at h
      simp only [Prod.mk.injEq] at h
      obtain ⟨rfl, rfl, rfl⟩ := h
      have hs : e2 = 0 := by
        by_cases h2 : e2 = 0
        · exact h2
        · rw [getS_stop (.inr h2)] at hg
          simp only [Prod.mk.injEq] at hg
          exact hg.2.2
      subst hs
      have h3 := rdVer_mono hx
      have := ih k2 0 m2 ys (by omega) (fun _ => h3.2) hg
      simp only [List.length_cons]
      omega
    · rw [getS_stop (.inr he)] at h
      simp only [Prod.mk.injEq] at h
      exact absurd h.2.2 he
/-- what DecodeVersions answers -/
def decVersions (l : List UInt8) : List Ver × Int :=
  if 1048576 < l.length then ([], 5)
  else if endE (rdVs l (0, 0)).2 l.length ≠ 0 then ([], endE (rdVs l (0, 0)).2 l.length)
  else if 4096 < (rdVs l (0, 0)).1.length then ([], 5)
  else if chkFrom none (rdVs l (0, 0)).1 ≠ 0 then ([], chkFrom none (rdVs l (0, 0)).1)
  else ((rdVs l (0, 0)).1, 0)
theorem decVersions_len (l : List UInt8) : (decVersions l).1.length ≤ l.length := by
  unfold decVersions
  split
  · simp
  · split
    · simp
    · rename_i h2
      split
      · simp
      · split
        · simp
        · rcases hr : rdVs l (0, 0) with ⟨vs, m, e⟩
          rw [hr] at h2
          have he : e = 0 := by
            unfold endE at h2
            simp only at h2
            by_cases h3 : e = 0
            · exact h3
            · rw [if_neg (fun h => h3 h.1)] at h2
              exact absurd h3 h2
          subst he
          simp only
          unfold rdVs at hr
          split at hr
          · simp only [Prod.mk.injEq] at hr
            exact absurd hr.2.2 (by decide)
          · rcases hi : rdI l (0, 0) with ⟨n, k1, e1⟩
            rw [hi] at hr
            simp only at hr
            have he1 : e1 = 0 := by
              by_cases h3 : e1 = 0
              · exact h3
              · rw [getS_stop (.inr h3)] at hr
                simp only [Prod.mk.injEq] at hr
                exact hr.2.2
            subst he1
            have hm := rdI_mono hi
            simp only at hm
            obtain ⟨a, r, hl2, _, hm2⟩ := decI_got hm.2.2
            have hln : l.length = (a ++ encI n).length + r.length := by rw [hl2]; simp [Nat.add_assoc]
            have := getS_len _ k1 0 m vs (by omega) (fun _ => by omega) hr
            omega
def DecVOut (res : List Ver × Int) (w0 : World) (e : Ending) (w : World) : Prop :=
  ∃ u Q, e = .returned (.tuple #[u, .int .i64 res.2]) ∧ RdVs w (fun b => w0.heap.size ≤ b ∧ b < w.heap.size) u Q ∧ Q.map (·.2) = res.1 ∧ Below w0.heap.size w0 w
theorem DecVOut.no {w0 w : World} {c : Int} {e : Ending} (he : e = .returned (.tuple #[.slice none 0 0, .int .i64 c])) (hb : Below w0.heap.size w0 w) : DecVOut ([], c) w0 e w := ⟨_, [], he, ⟨Rd.nil _ _ _, fun p hp => by cases hp⟩, rfl, hb⟩
set_option maxRecDepth 1000000 in
set_option maxHeartbeats 4000000 in
theorem decodeVersions_any (v : Value) (l : List UInt8) (w : World) (hv : RdB w (· < w.heap.size) v l) :
    Calls Tryz.prog 24 #[v] w (DecVOut (decVersions l) w) := by
  obtain ⟨Av, cv, rfl, y1, y2, y3⟩ := Rd.open_ hv
  unfold maxLen at y2
  have HV := Lib.hid hv
  clear hv y3
  by_cases hl : 1048576 < l.length
  case pos =>
    rw [show decVersions l = ([], 5) from if_pos hl]
    have hli : (1048576 : Int) < (l.length : Int) := by omega
    go_enter Tryz.func24, Tryz.ntmps24
    go_wp2_with fail
    go_ret2
    exact DecVOut.no rfl (Below.refl _ _)
  case neg =>
    have hli : ¬ (1048576 : Int) < (l.length : Int) := by omega
    rw [show decVersions l = _ from if_neg hl]
    obtain ⟨W, hW⟩ : ∃ W, W = w.alloc (.cells #[.slice Av l.length cv, .int .i64 0, .int .i64 0] 119) := ⟨_, rfl⟩
    have hbW : Below w.heap.size w W := by rw [hW]; exact Below.of_alloc _
    have hWs : W.heap.size = w.heap.size + 1 := by rw [hW]; simp
    have hS : SrcAt W w.heap.size (.slice Av l.length cv) (0, 0) := by rw [hW]; exact heap_alloc_new _ _
    have hVW : RdB W (· < w.heap.size) (.slice Av l.length cv) l := Rd.keep HV.out (fun b hb => hbW.block b hb)
    have KG := get_any w.heap.size _ l (0, 0) W hS hVW (by omega)
    rcases hr : rdVs l (0, 0) with ⟨vs, st⟩
    rw [hr] at KG
    have HBW := Lib.hid hbW
    have HVW := Lib.hid hVW
    simp only
    clear hr hbW hS hVW
    obtain ⟨ee, hee⟩ : ∃ ee, ee = endE st l.length := ⟨_, rfl⟩
    rw [← hee]
    obtain ⟨ce, hce⟩ : ∃ ce, ce = chkFrom none vs := ⟨_, rfl⟩
    rw [← hce]
    have HEE := Lib.hid hee
    have HCE := Lib.hid hce
    clear hee hce
    obtain ⟨res, hres⟩ : ∃ r, r = (if ee ≠ 0 then (([] : List Ver), ee) else if 4096 < vs.length then ([], 5) else if ce ≠ 0 then ([], ce) else (vs, 0)) := ⟨_, rfl⟩
    rw [← hres]
    have HRES := Lib.hid hres
    clear hres
    go_enter Tryz.func24, Tryz.ntmps24
    go_wp2_with fail
    rw [← hW]
    clear hW
    (with_reducible refine KG.mono ?_)
    rintro _ w1 ⟨u, Q, rfl, hQ, hQm, hs1, hc1⟩
    simp only at hQm hs1
    have KE := srcEnd_any w.heap.size _ l st w1 hs1 (Rd.keep HVW.out (fun b (hb : b < w.heap.size) => hc1.block b (by omega) (by omega)))
    rw [← HEE.out] at KE
    obtain ⟨Aq, cq, rfl, q1, q2, q3⟩ := hQ.1.open_
    unfold maxLen at q2
    have hb1 : Below w.heap.size w w1 := HBW.out.trans (hc1.below (by omega) (fun b (hb : b = w.heap.size) => by omega))
    have HQ := Lib.hid hQ
    have HQM := Lib.hid hQm
    have HB1 := Lib.hid hb1
    have hz1 := hc1.size
    have HQL : Hid (Q.length = vs.length) := Lib.hid (by rw [← hQm, List.length_map])
    clear hQ hQm hs1 hc1 q3 hb1 KG
    go_wp2_with fail
    (with_reducible refine KE.mono ?_)
    rintro _ w2 ⟨rfl, hb2⟩
    have hB2 : Below w.heap.size w w2 := HB1.out.trans (hb2.mono (by omega))
    have HB2 := Lib.hid hB2
    have HQ2 : Hid (RdVs w2 (fun b => w.heap.size ≤ b ∧ b < w2.heap.size) (.slice Aq Q.length cq) Q) := Lib.hid ((HQ.out.keep (fun b (hb : w.heap.size < b ∧ b < w1.heap.size) => hb2.block b hb.2)).wide (fun b (hb : w.heap.size < b ∧ b < w1.heap.size) => ⟨by omega, by have := hb2.size; omega⟩))
    clear hb2 hB2 KE
    by_cases he : ee = 0
    case neg =>
      have HR : Hid (res = ([], ee)) := Lib.hid (by rw [HRES.out, if_pos he])
      go_wp2_with fail
      go_ret2
      rw [HR.out]
      exact DecVOut.no rfl HB2.out
    case pos =>
      by_cases hq : 4096 < Q.length
      case pos =>
        have HR : Hid (res = ([], 5)) := Lib.hid (by rw [HRES.out, if_neg (by simpa using he), if_pos (by have := HQL.out; omega)])
        have hqi : (4096 : Int) < (Q.length : Int) := by omega
        go_wp2_with fail
        go_ret2
        rw [HR.out]
        exact DecVOut.no rfl HB2.out
      case neg =>
        have hqi : ¬ (4096 : Int) < (Q.length : Int) := by omega
        have KC := checkVersions_any _ Q w2 (HQ2.out.wide (fun b hb => hb.2))
        rw [HQM.out, ← HCE.out] at KC
        have HQV : Hid (¬ 4096 < vs.length) := Lib.hid (by have := HQL.out; omega)
        go_wp2_with fail
        (with_reducible refine KC.mono ?_)
        rintro _ w3 ⟨rfl, hb3⟩
        have hB3 : Below w.heap.size w w3 := HB2.out.trans (hb3.mono HB2.out.size)
        have HB3 := Lib.hid hB3
        have HQ3 : Hid (RdVs w3 (fun b => w.heap.size ≤ b ∧ b < w3.heap.size) (.slice Aq Q.length cq) Q) := Lib.hid ((HQ2.out.keep (fun b hb => hb3.block b hb.2)).wide (fun b hb => ⟨hb.1, by have := hb3.size; have := hb.2; omega⟩))
        clear KC hB3 hb3
        by_cases hc : ce = 0
        case neg =>
          have HR : Hid (res = ([], ce)) := Lib.hid (by rw [HRES.out, if_neg (by simpa using he), if_neg HQV.out, if_pos hc])
          go_wp2_with fail
          go_ret2
          rw [HR.out]
          exact DecVOut.no rfl HB3.out
        case pos =>
          have HR : Hid (res = (vs, 0)) := Lib.hid (by rw [HRES.out, if_neg (by simpa using he), if_neg HQV.out, if_neg (by simpa using hc)])
          go_wp2_with fail
          go_ret2
          rw [HR.out]
          exact ⟨_, Q, rfl, HQ3.out, HQM.out, HB3.out⟩
end Go.Proofs.YtacjiocffbgkkaaGreat
