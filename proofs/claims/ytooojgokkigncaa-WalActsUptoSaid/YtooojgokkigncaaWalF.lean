/-
  Logs: the law's own function large; what a scan has read.
-/
import Derived.Test.YtooojgokkigncaaFile
import Derived.Test.YtooojgokkigncaaWalE
namespace Go.Proofs.Ytooojgokkigncaa
open Go.RowKit Go.Lib Go.IntWalk

theorem be4_num4 (c0 c1 c2 c3 : UInt8) : be4 (num4 c0 c1 c2 c3) = [c0, c1, c2, c3] := by
  have h0 := c0.toNat_lt; have h1 := c1.toNat_lt; have h2 := c2.toNat_lt; have h3 := c3.toNat_lt
  simp only [be4, num4, List.map_cons, List.map_nil, List.cons.injEq, and_true]
  refine ⟨?_, ?_, ?_, ?_⟩ <;> apply UInt8.toNat_inj.1 <;> rw [UInt8.toNat_ofNat'] <;> omega
theorem take4 {l : List UInt8} {k : Nat} (h : k + 4 ≤ l.length) : (l.drop k).take 4 = be4 (num4L l k) := by
  unfold num4L
  rw [be4_num4]
  apply List.ext_getElem?
  intro i
  rw [List.getElem?_take]
  by_cases hi : i < 4
  · rw [if_pos hi, List.getElem?_drop, List.getElem?_eq_getElem (by omega)]
    have hc : i = 0 ∨ i = 1 ∨ i = 2 ∨ i = 3 := by omega
    have h0 := List.getElem?_eq_getElem (l := l) (i := k) (by omega)
    have h1 := List.getElem?_eq_getElem (l := l) (i := k + 1) (by omega)
    have h2 := List.getElem?_eq_getElem (l := l) (i := k + 2) (by omega)
    have h3 := List.getElem?_eq_getElem (l := l) (i := k + 3) (by omega)
    rcases hc with rfl | rfl | rfl | rfl <;> simp [List.getD, h0, h1, h2, h3]
  · rw [if_neg hi, List.getElem?_eq_none (by simp; omega)]
theorem next_frm {l : List UInt8} {k : Nat} (h : (nextF l (k : Int)).2.2 = 0) : (l.drop k).take ((nextF l (k : Int)).1.length + 8) = frm (nextF l (k : Int)).1 ∧ (nextF l (k : Int)).2.1 = (k : Int) + 8 + ((nextF l (k : Int)).1.length : Nat) := by
  unfold nextF at h ⊢
  rw [Int.toNat_natCast] at h ⊢
  split at h
  · simp at h
  split at h
  · simp at h
  split at h
  · simp at h
  split at h
  · simp at h
  split at h
  · simp at h
  rename_i q1 q2 q3 q4 q5
  rw [if_neg q1, if_neg q2, if_neg q3, if_neg q4, if_neg q5]
  have hlen : ((l.drop (k + 8)).take (num4L l k)).length = num4L l k := by rw [List.length_take, List.length_drop]; omega
  have q5' := Classical.not_not.1 q5
  refine ⟨?_, by rw [hlen]⟩
  simp only
  unfold frm
  rw [hlen]
  have t1 := take4 (l := l) (k := k) (by omega)
  have t2 := take4 (l := l) (k := k + 4) (by omega)
  rw [← t1, ← q5', ← t2]
  apply List.ext_getElem?
  intro i
  rw [List.getElem?_take]
  by_cases h4 : i < 4
  · rw [if_pos (by omega), List.getElem?_append_left (by rw [List.length_take, List.length_drop]; omega), List.getElem?_take, if_pos h4]
  · rw [List.getElem?_append_right (by rw [List.length_take, List.length_drop]; omega), List.length_take, List.length_drop]
    by_cases h8 : i < 8
    · rw [if_pos (by omega), List.getElem?_append_left (by rw [List.length_take, List.length_drop]; omega), List.getElem?_take, if_pos (by omega), List.getElem?_drop, List.getElem?_drop]
      congr 1; omega
    · rw [List.getElem?_append_right (by rw [List.length_take, List.length_drop]; omega), List.length_take, List.length_drop, List.getElem?_take]
      by_cases hn : i < num4L l k + 8
      · rw [if_pos hn, if_pos (by omega), List.getElem?_drop, List.getElem?_drop]
        congr 1; omega
      · rw [if_neg hn, if_neg (by omega)]
theorem scanN_take (l : List UInt8) : ∀ (f k : Nat) (acc : List (List UInt8)), k ≤ l.length → l.take k = frs acc → l.take (scanN l f k acc).2 = frs (scanN l f k acc).1 := by
  intro f
  induction f with
  | zero => intro k acc hk h; exact h
  | succ f ih =>
    intro k acc hk h
    unfold scanN
    by_cases hn : (nextF l (k : Int)).2.2 = 0
    · rw [if_pos hn]
      obtain ⟨j, hj, h1, h2⟩ := nextF_ok hn
      obtain ⟨e1, e2⟩ := next_frm hn
      rw [hj, Int.toNat_natCast]
      refine ih j _ h2 ?_
      have hj' : j = k + ((nextF l (k : Int)).1.length + 8) := by omega
      rw [hj', List.take_add, h, e1]
      simp [frs]
    · rw [if_neg hn]; exact h
theorem scan_take (l : List UInt8) : l.take (scanF l).2 = frs (scanF l).1 := scanN_take l _ 0 [] (Nat.zero_le _) rfl
/-- what is left behind a repair is read as before -/
theorem scan_again (l : List UInt8) : scanF (l.take (scanF l).2) = ((scanF l).1, (l.take (scanF l).2).length) := by
  obtain ⟨h1, h2, h3⟩ := scanF_inv l
  have := scanF_frames (scanF l).1 [] h2 (by simp)
  rw [List.append_nil, ← scan_take] at this
  rw [this, List.length_take, Nat.min_eq_left h3, h1]
theorem rep_view (fm : FM) (nm cut : List UInt8) : viewF fm (repOps fm [] nm cut) nm = some cut := by
  unfold repOps
  cases h : (fm tornN) with
  | none =>
    rw [if_neg (by simp [viewF, h])]
    simp [viewF, applyF, updG, h]
  | some b =>
    rw [if_pos (by simp [viewF, h])]
    simp [viewF, applyF, updG]
/-- opening a second time -/
theorem open_again (fm : FM) (nm : List UInt8) : (openD fm [] nm).2 = [] ∧ openD (openD fm [] nm).1 [] nm = ((openD fm [] nm).1, []) ∧ (scanF ((viewF (openD fm [] nm).1 [] nm).getD [])).1 = (scanF ((viewF fm [] nm).getD [])).1 := by
  have hd : openD fm [] nm = if (scanF ((viewF fm [] nm).getD [])).2 < ((viewF fm [] nm).getD []).length then
    (viewF fm (repOps fm [] nm (((viewF fm [] nm).getD []).take (scanF ((viewF fm [] nm).getD [])).2)), []) else (fm, []) := rfl
  by_cases h : (scanF ((viewF fm [] nm).getD [])).2 < ((viewF fm [] nm).getD []).length
  · rw [if_pos h] at hd
    rw [hd]
    have hv : viewF (viewF fm (repOps fm [] nm (((viewF fm [] nm).getD []).take (scanF ((viewF fm [] nm).getD [])).2))) [] nm = some (((viewF fm [] nm).getD []).take (scanF ((viewF fm [] nm).getD [])).2) := rep_view fm nm _
    refine ⟨rfl, ?_, ?_⟩
    · unfold openD
      rw [hv, Option.getD_some, scan_again, if_neg (Nat.lt_irrefl _)]
    · rw [hv, Option.getD_some, scan_again]
  · rw [if_neg h] at hd
    rw [hd]
    exact ⟨rfl, hd, rfl⟩
theorem DiskAt.fr {B Z : Nat} {w : World} {D : Nat} {P : Option Nat} {fm : FM} {os : List DOp} (h : DiskAt B Z w D P fm os) : ∀ b, FR B w b → ¬ (b = D ∨ some b = P) := by
  rintro b (hb | ⟨cs, hb⟩) hd
  · have := h.ge hd; omega
  · exact h.not_log hb (by decide) (by decide) hd

/-- an operation of a law -/
structure VOp where
  kind : Int
  data : List UInt8
  keep : Int
  torn : Int
def vopC (p : VOp × Value) : List Value := [.int .i64 p.1.kind, p.2, .int .i64 p.1.keep, .int .i64 p.1.torn]
theorem vopC_len (p : VOp × Value) : (vopC p).length = 4 := rfl
def vopCs (ps : List (VOp × Value)) : List Value := ps.flatMap vopC
/-- operations that the input has -/
def InVs (B : Nat) (w : World) (v : Value) (vos : List VOp) : Prop :=
  ∃ ps : List (VOp × Value), ps.map (·.1) = vos ∧ Rd w (· < B) 4 v ps.length (vopCs ps) ∧ ∀ p ∈ ps, RdB w (· < B) p.2 p.1.data
theorem InVs.below {B : Nat} {w w' : World} {v : Value} {vos : List VOp} (h : InVs B w v vos) (hb : Below B w w') : InVs B w' v vos := by
  obtain ⟨ps, h1, h2, h3⟩ := h
  exact ⟨ps, h1, Rd.keep h2 (fun b hb' => hb.block b hb'), fun p hp => Rd.keep (h3 p hp) (fun b hb' => hb.block b hb')⟩
theorem InVs.open_ {B : Nat} {w : World} {v : Value} {vos : List VOp} (h : InVs B w v vos) : ∃ A c, v = .slice A vos.length c ∧ vos.length ≤ c ∧ c ≤ maxLen ∧ (A = none → c = 0) := by
  obtain ⟨ps, rfl, hr, hd⟩ := h
  rw [List.length_map]
  exact hr.open_
theorem InVs.elem {B : Nat} {w : World} {A : Option Addr} {c : Nat} {vos : List VOp} (h : InVs B w (.slice A vos.length c) vos) {k : Nat} {q : VOp} (hk : vos[k]? = some q) :
    ∃ b off dv, A = some ⟨b, off, none⟩ ∧ w.cell? ⟨b, off + k * 4, none⟩ = some (.int .i64 q.kind) ∧ w.cell? ⟨b, off + k * 4 + 1, none⟩ = some dv ∧
      w.cell? ⟨b, off + k * 4 + 2, none⟩ = some (.int .i64 q.keep) ∧ w.cell? ⟨b, off + k * 4 + 3, none⟩ = some (.int .i64 q.torn) ∧ DatB B w dv q.data ∧ b < B := by
  obtain ⟨ps, rfl, hr, hd⟩ := h
  rw [List.length_map] at hr
  rw [List.getElem?_map, Option.map_eq_some_iff] at hk
  obtain ⟨p, hp, rfl⟩ := hk
  obtain ⟨hlt, _⟩ := List.getElem?_eq_some_iff.1 hp
  obtain ⟨b, off, rfl, hF, hc⟩ := Rd.plain hr (by omega) (by omega)
  have e := fun (j : Nat) (hj : j < 4) (u : Value) (hu : (vopC p)[j]? = some u) => hc (k * 4 + j) u ((flat_get 4 vopC vopC_len ps k j hj p hp).trans hu)
  refine ⟨b, off, p.2, rfl, e 0 (by omega) _ rfl, ?_, ?_, ?_, DatB.of_input (hd p (List.mem_of_getElem? hp)), hF⟩
  · rw [Nat.add_assoc]; exact e 1 (by omega) _ rfl
  · rw [Nat.add_assoc]; exact e 2 (by omega) _ rfl
  · rw [Nat.add_assoc]; exact e 3 (by omega) _ rfl
def vosum (vos : List VOp) : Nat := (vos.map fun o => o.data.length).sum
theorem vosum_take {fl : List VOp} {k : Nat} {r : VOp} (h : fl[k]? = some r) : vosum (fl.take (k + 1)) = vosum (fl.take k) + r.data.length := by
  obtain ⟨hk, e⟩ := List.getElem?_eq_some_iff.1 h
  rw [List.take_succ_eq_append_getElem hk, e]
  simp [vosum]
theorem vosum_take_le (fl : List VOp) (k : Nat) : vosum (fl.take k) ≤ vosum fl := by
  conv => rhs; rw [← List.take_append_drop k fl]
  simp only [vosum, List.map_append, List.sum_append]; omega

def VLarge (fl : FL) (vos : List VOp) (w0 : World) (e : Ending) (w : World) : Prop :=
  ∃ b, e = .returned (.bool b) ∧ (b = false → fl.length ≤ 20 ∧ vos.length ≤ 40 ∧ flsum fl + vosum vos ≤ 2000) ∧ Below w0.heap.size w0 w
set_option maxRecDepth 100000 in
set_option maxHeartbeats 4000000 in
theorem wlarge_any (B : Nat) (vf vo : Value) (fl : FL) (vos : List VOp) (w : World) (hB : B ≤ w.heap.size) (hf : FlsRd B w vf fl) (ho : InVs B w vo vos) (hl : flsum fl + fl.length + vosum vos + vos.length ≤ 1099511627776) :
    Calls Try.prog 36 #[vf, vo] w (VLarge fl vos w) := by
  obtain ⟨A, c, rfl, a1, a2, a3⟩ := hf.open_
  obtain ⟨Ao, co, rfl, b1, b2, b3⟩ := ho.open_
  unfold maxLen at a2 b2
  clear a3 b3
  go_enter Try.func36, Try.ntmps36
  go_wp2_with fail
  go_loopw [5, 12] (fun n i wr => ∃ k : Nat, k ≤ fl.length ∧ i = .int .i64 (k : Int) ∧ n = .int .i64 ((flsum (fl.take k) : Nat) : Int) ∧ Below w.heap.size w wr) (fun _ i _ => fl.length - (intOf i).toNat)
  case atStart => exact ⟨0, Nat.zero_le _, rfl, rfl, Below.refl _ _⟩
  case round =>
    obtain ⟨k, hk, rfl, rfl, hbw⟩ := hrel
    by_cases hlt : k < fl.length
    · obtain ⟨ba, oa, ua, rfl, ga, ga1, da, _⟩ := FlsRd.elem (hf.below hB hbw) (List.getElem?_eq_getElem hlt)
      have HFT := Lib.hid (flsum_take (List.getElem?_eq_getElem hlt))
      have hle := flsum_take_le fl (k + 1)
      rw [HFT.out] at hle
      obtain ⟨Xa, xa, rfl, _, _, _⟩ := Rd.open_ da
      generalize fl[k].1 = nm at *
      generalize fl[k].2 = data at *
      have kG := box_cell wr #[.string (strB nm), .slice Xa data.length xa] 97 1 rfl
      go_wp2_with fail
      go_roundw
      case rel =>
        refine ⟨k + 1, by omega, by go_num, ?_, hbw.alloc hbw.size _⟩
        rw [HFT.out]
        go_num
      case measure => simp [intOf]; omega
    have hke : k = fl.length := by omega
    have HK : Hid (flsum (fl.take k) = flsum fl) := Lib.hid (by rw [hke, List.take_length])
    rw [HK.out]
    generalize hN : flsum fl = N at *
    have HN := Lib.hid hN
    clear hke hN HK
    go_wp2_with fail
    go_loopw [5, 24] (fun n i wr => ∃ k : Nat, k ≤ vos.length ∧ i = .int .i64 (k : Int) ∧ n = .int .i64 ((N + vosum (vos.take k) : Nat) : Int) ∧ Below w.heap.size w wr) (fun _ i _ => vos.length - (intOf i).toNat)
    case atStart => exact ⟨0, Nat.zero_le _, rfl, by simp [vosum], hbw⟩
    case round =>
      obtain ⟨j, hj, rfl, rfl, hbj⟩ := hrel
      by_cases hlj : j < vos.length
      · obtain ⟨ba, oa, ua, rfl, g0, g1, g2, g3, da, _⟩ := InVs.elem (ho.below (hbj.mono hB)) (List.getElem?_eq_getElem hlj)
        have HFT := Lib.hid (vosum_take (List.getElem?_eq_getElem hlj))
        have hle := vosum_take_le vos (j + 1)
        rw [HFT.out] at hle
        obtain ⟨Xa, xa, rfl, _, _, _⟩ := Rd.open_ da
        generalize vos[j] = q at *
        have kG := box_cell wr #[.int .i64 q.kind, .slice Xa q.data.length xa, .int .i64 q.keep, .int .i64 q.torn] 70 1 rfl
        go_wp2_with fail
        go_roundw
        case rel =>
          refine ⟨j + 1, by omega, by go_num, ?_, hbj.alloc hbj.size _⟩
          rw [HFT.out]
          go_num
        case measure => simp [intOf]; omega
      have hje : j = vos.length := by omega
      have HJ : Hid (N + vosum (vos.take j) = N + vosum vos) := Lib.hid (by rw [hje, List.take_length])
      rw [HJ.out]
      clear HJ hje
      by_cases c1 : 20 < fl.length
      · have q1 : (20 : Int) < (fl.length : Int) := by omega
        go_wp2_with fail
        go_ret
        exact ⟨true, rfl, (fun h => by cases h), hbj⟩
      have q1 : ¬ (20 : Int) < (fl.length : Int) := by omega
      by_cases c2 : 40 < vos.length
      · have q2 : (40 : Int) < (vos.length : Int) := by omega
        go_wp2_with fail
        go_ret
        refine Exists.intro true ?_
        refine ⟨rfl, (fun h => by cases h), hbj⟩
      have q2 : ¬ (40 : Int) < (vos.length : Int) := by omega
      by_cases c3 : 2000 < N + vosum vos
      · have q3 : (2000 : Int) < (N : Int) + (vosum vos : Int) := by omega
        go_wp2_with fail
        go_ret
        refine Exists.intro true ?_
        refine ⟨rfl, (fun h => by cases h), hbj⟩
      have q3 : ¬ (2000 : Int) < (N : Int) + (vosum vos : Int) := by omega
      go_wp2_with fail
      go_ret
      refine Exists.intro false ?_
      refine ⟨rfl, (fun _ => by have := HN.out; omega), hbj⟩

end Go.Proofs.Ytooojgokkigncaa
