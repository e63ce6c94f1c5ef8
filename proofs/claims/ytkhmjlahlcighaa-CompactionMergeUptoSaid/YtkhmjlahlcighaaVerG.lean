/-
  Lists of lists of versions: concat; clones of rows; the sort of nothing.
-/
import Derived.Test.YtkhmjlahlcighaaVerF
namespace Go.Proofs.Ytkhmjlahlcighaa
open Go.RowKit Go.Lib Go.IntWalk Go.Sort Go.Shelf

abbrev LVP := Value × List VP
/-- v is a slice of slices of versions -/
def RdLL (w : World) (F : Nat → Prop) (v : Value) (ls : List LVP) : Prop := Rd w F 1 v ls.length (ls.map (·.1)) ∧ ∀ p ∈ ls, RdVs w F p.1 p.2
theorem RdLL.keep {w w' : World} {F : Nat → Prop} {v : Value} {ls : List LVP} (h : RdLL w F v ls) (hk : Keeps F w w') : RdLL w' F v ls := ⟨h.1.keep hk, fun p hp => (h.2 p hp).keep hk⟩
theorem RdLL.wide {w : World} {F G : Nat → Prop} {v : Value} {ls : List LVP} (h : RdLL w F v ls) (hk : ∀ b, F b → G b) : RdLL w G v ls := ⟨h.1.wide hk, fun p hp => (h.2 p hp).wide hk⟩
theorem RdLL.below {w w' : World} {v : Value} {ls : List LVP} (h : RdLL w (· < w.heap.size) v ls) (hb : Below w.heap.size w w') : RdLL w' (· < w'.heap.size) v ls :=
  (h.keep (Keeps.below hb)).wide fun _ h => Nat.lt_of_lt_of_le h hb.size
theorem RdLL.at_ {w : World} {F : Nat → Prop} {A : Option Addr} {c : Nat} {ls : List LVP} (h : RdLL w F (.slice A ls.length c) ls) {k : Nat} (hk : k < ls.length) :
    ∃ b off, A = some ⟨b, off, none⟩ ∧ F b ∧ w.cell? ⟨b, off + k, none⟩ = some ls[k].1 ∧ RdVs w F ls[k].1 ls[k].2 := by
  obtain ⟨b, off, rfl, hF, hc⟩ := Rd.plain h.1 (by omega) (by omega)
  exact ⟨b, off, rfl, hF, hc k _ (by rw [List.getElem?_map, List.getElem?_eq_getElem hk]; rfl), h.2 _ (List.getElem_mem hk)⟩
def allP (ls : List LVP) : List VP := ls.flatMap (·.2)
theorem allP_snoc {ls : List LVP} {k : Nat} (hk : k < ls.length) : allP (ls.take (k + 1)) = allP (ls.take k) ++ ls[k].2 := by
  unfold allP
  rw [List.take_succ_eq_append_getElem hk, List.flatMap_append, List.flatMap_singleton]
theorem allP_le (ls : List LVP) (k : Nat) : (allP (ls.take k)).length ≤ (allP ls).length := by
  have h : allP ls = allP (ls.take k) ++ allP (ls.drop k) := by unfold allP; rw [← List.flatMap_append, List.take_append_drop]
  rw [h, List.length_append]; omega
def cellsP (ps : List VP) : List Value := ps.flatMap fun p => p.1.enc
theorem cellsP_append (a b : List VP) : cellsP (a ++ b) = cellsP a ++ cellsP b := by simp [cellsP]
theorem cellsP_length (ps : List VP) : (cellsP ps).length = ps.length * 9 := flat_lenC 9 ps _ (fun _ _ => rfl)
theorem cellsP_one (ps : List VP) : ∀ u ∈ cellsP ps, u.oneCell' = true := by
  intro u hu
  obtain ⟨p, _, hp⟩ := List.mem_flatMap.1 hu
  exact p.1.enc_one u hp
theorem infoVer : (Try.prog.info? 38).map (fun i => (i.zero, i.size, i.bytes)) = some (some (.agg #[.int .i64 0, .int .i64 0, .slice none 0 0, .int .i64 0, .int .i64 0, .int .i64 0, .int .i64 0, .int .i64 0, .int .i64 0]), 9, 88) := by kernel_rfl
def OwnP (w : World) (base : Nat) (v : Value) (ps : List VP) : Prop := w.ownsRow base 38 9 v ps.length (cellsP ps)

set_option maxRecDepth 1000000 in
set_option maxHeartbeats 1000000 in
theorem concat_any (v : Value) (ls : List LVP) (w : World) (hv : RdLL w (· < w.heap.size) v ls) (hn : (allP ls).length ≤ 1099511627776) :
    Calls Try.prog 15 #[v] w fun e w' => ∃ u, e = .returned u ∧ OwnP w' w.heap.size u (allP ls) ∧ Below w.heap.size w w' := by
  obtain ⟨A, c, rfl, hc1, hc2, hc3⟩ := hv.1.open_
  unfold maxLen at hc2
  obtain ⟨i0, hi, hz0, hz1, hz2⟩ := info_parts infoVer
  have HI := Lib.hid hi
  have HZ0 := Lib.hid hz0
  have HZ1 := Lib.hid hz1
  have HZ2 := Lib.hid hz2
  have HVS := Lib.hid hv
  clear hv hi hz0 hz1 hz2
  go_enter Try.func15, Try.ntmps15
  go_wp2_with fail
  go_loopw [3, 8] (fun o i wr => ∃ k : Nat, i = .int .i64 (k : Int) ∧ k ≤ ls.length ∧ Hid (OwnP wr w.heap.size o (allP (ls.take k))) ∧ Below w.heap.size w wr) (fun _ i _ => ls.length - (intOf i).toNat)
  case atStart => exact ⟨0, rfl, Nat.zero_le _, Lib.hid (World.ownsRow_nil _ _ _ _), Below.refl _ _⟩
  case round =>
    obtain ⟨k, rfl, hk, HO, hB⟩ := hrel
    obtain ⟨wo, rfl⟩ : ∃ wo : World, wo = wr := ⟨_, rfl⟩
    have hsz := hB.size
    by_cases hlt : k < ls.length
    case neg =>
      have hke : k = ls.length := by omega
      go_wp2_with fail
      go_ret
      refine ⟨_, rfl, ?_, hB⟩
      have hA := HO.out
      rw [hke, List.take_of_length_le (Nat.le_refl _)] at hA
      exact hA
    case pos =>
      obtain ⟨b, off, rfl, hF, hcl, hx⟩ := RdLL.at_ (HVS.out.below hB) hlt
      have hsn := allP_snoc hlt
      have hle := allP_le ls (k + 1)
      have HSN := Lib.hid hsn
      rw [hsn, List.length_append] at hle
      clear hsn
      generalize ls[k] = p at *
      obtain ⟨pv, ps⟩ := p
      simp only at hcl hx HSN hle
      have HX := Lib.hid hx
      have HLE := Lib.hid hle
      obtain ⟨Ap, cp, rfl, y1, y2, y3⟩ := hx.1.open_
      obtain ⟨Ao, co, rfl, z1, z2, z3⟩ := Rd.open_ (Rd.of_own HO.out)
      clear hx hle y3 z3
      go_wp2_with (at_builtin; refine wpList_append_app wo rfl (.tmp 12) (.tmp 13) 29 rfl w.heap.size 38 i0 _ 9 88 Try.underlying29 HI.out HZ0.out HZ1.out HZ2.out rfl (by omega) _ (allP (ls.take k)).length (cellsP (allP (ls.take k))) rfl (.inl HO.out) (· < wo.heap.size) _ ps.length (cellsP ps) rfl HX.out.1 (cellsP_one _) (by have := HLE.out; unfold maxLen; omega) (by have := HLE.out; omega) (by omega) ?_; intro v3 w3 _ hO3 hg3 hb3 hv3)
      have hO3' : Hid (OwnP w3 w.heap.size v3 (allP (ls.take (k + 1)))) := Lib.hid (by
        have := hO3 (.inr HO.out)
        unfold OwnP
        rw [HSN.out, List.length_append, cellsP_append]
        exact this)
      clear hO3 hg3 hv3
      go_roundw
      case rel => exact ⟨k + 1, by go_num, by omega, hO3', hB.trans hb3⟩
      case measure => simp [intOf]; omega

theorem eqV_nil (A : Option Addr) (n c : Nat) (w : World) : (binOp .eql 34 (.slice A n c) (.slice none 0 0)).run Try.prog w = .ok (.bool A.isNone) w := by
  simp only [binOp]
  rw [Sem.run_bind, run_equal_slice_nil w 34 46 A n c Try.underlying34]
  rfl
set_option maxRecDepth 1000000 in
set_option maxHeartbeats 1000000 in
theorem cloneV_any (v : Value) (xs : List Val) (w : World) (hv : RdV w (· < w.heap.size) v xs) (hm : xs.length ≤ 1099511627776) :
    Calls Try.prog 18 #[v] w fun e w' => ∃ u, e = .returned u ∧ OwnV w' w.heap.size u xs ∧ Below w.heap.size w w' := by
  obtain ⟨A, c, rfl, hc1, hc2, hc3⟩ := hv.open_
  have hq := fun w => eqV_nil A xs.length c w
  obtain ⟨i0, hi, hz0, hz1, hz2⟩ := info_parts infoV
  have HI := Lib.hid hi
  have HZ0 := Lib.hid hz0
  have HZ1 := Lib.hid hz1
  have HZ2 := Lib.hid hz2
  clear hi hz0 hz1 hz2
  cases A with
  | none =>
    obtain rfl : xs = [] := List.eq_nil_of_length_eq_zero (by have := hc3 rfl; omega)
    obtain rfl : c = 0 := hc3 rfl
    clear hc3 hc2 hc1 hv hm
    simp only [List.length_nil, Option.isNone_none] at hq ⊢
    go_enter Try.func18, Try.ntmps18
    go_wp2_with fail
    go_ret
    exact ⟨_, rfl, OwnV.nil _ _, Below.refl _ _⟩
  | some x =>
    clear hc3
    simp only [Option.isNone_some] at hq
    go_enter Try.func18, Try.ntmps18
    go_wp2_with (at_builtin; refine wpList_append_app _ rfl (.tmp 5) (.tmp 6) 34 rfl w.heap.size 46 i0 _ 3 32 Try.underlying34 HI.out HZ0.out HZ1.out HZ2.out rfl (by omega) _ 0 [] rfl (.inl (own_empty _ _ _ _ (Nat.le_refl _))) (· < w.heap.size) _ xs.length (cv xs) rfl (Rd.alloc hv (Nat.le_refl _) _) (cv_one _) (by unfold maxLen; omega) (by omega) (by simp) ?_; intro v3 w3 _ hO3 _ hb3 _)
    go_ret
    refine ⟨v3, rfl, ?_, (Below.of_alloc _).trans hb3⟩
    have h := hO3 (.inr (own_empty _ _ _ _ (Nat.le_refl _)))
    rw [Nat.zero_add, List.nil_append] at h
    exact h
end Go.Proofs.Ytkhmjlahlcighaa
