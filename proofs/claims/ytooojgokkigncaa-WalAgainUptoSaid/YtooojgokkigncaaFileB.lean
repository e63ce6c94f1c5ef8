/-
  Disks: list, Files, View.
-/
import Derived.Test.YtooojgokkigncaaFileA
namespace Go.Proofs.Ytooojgokkigncaa
open Go.RowKit Go.Lib Go.IntWalk Go.Maps Go.Sort

def ListRel (B : Nat) (fm : FM) (ks : List (List UInt8)) (w2 : World) (out i : Value) (w : World) : Prop :=
  ∃ k : Nat, k ≤ ks.length ∧ i = .int .i64 (k : Int) ∧ FlsOwn w2.heap.size B w out ((ks.take k).map fun k => (k, (fm k).getD [])) ∧ Below w2.heap.size w2 w
set_option maxRecDepth 100000 in
set_option maxHeartbeats 2000000 in
theorem dlist_any (B M n : Nat) (g : List UInt8 → Option Value) (fm : FM) (w : World) (hB : B ≤ w.heap.size) (hM : MapIs w M n g) (hG : GRd B w g fm) (hn : n ≤ 1099511627776) (hz : ∀ key, ((fm key).getD []).length ≤ 1099511627776) :
    Calls Try.prog 56 #[.map (some M)] w (ListOut B fm w) := by
  obtain ⟨i0, hi, hz0, hz1, hz2⟩ := info_parts infoF
  have hML := hM.lt
  have hM' := hM
  obtain ⟨D, hown, hhas, hat⟩ := hM
  obtain ⟨hnd, hmem, hsz⟩ := keys_facts hown
  have hle := strKeys_le hown Try.underlying9
  have CK := Lib.hid (callsIn_wide.1 (Try.maps_Keys_73 (some M) w))
  have CS := Lib.hid (callsIn_wide.1 (Try.slices_Sorted_keys_72_73 M n D heldE w hown (by unfold maxLen; omega) (by omega)))
  have HND := Lib.hid hnd
  have HMEM : Hid (∀ x, x ∈ strKeys D ↔ (fm x).isSome = true) := Lib.hid fun x => by rw [hmem, hhas, hG.some_eq]
  have HLE := Lib.hid hle
  have HZ := Lib.hid hz
  have HAT := Lib.hid hat
  clear hnd hmem hle hz hhas hat hown
  go_enter Try.func56, Try.ntmps56
  go_wp2_with fail
  (with_reducible refine CK.out.mono ?_)
  rintro _ _ ⟨rfl, rfl⟩
  clear CK
  go_wp2_with fail
  (with_reducible refine CS.out.mono ?_)
  rintro _ w2 ⟨vk, ss, rfl, hperm, hrow, _, hb2⟩
  clear CS
  obtain ⟨hs1, hs2, hs3⟩ := sorted_facts (hperm.nodup_iff.2 HND.out)
  generalize ss.mergeSort (fun x y => decide (x ≤ y)) = ks at *
  have HKM : Hid (∀ x, x ∈ ks ↔ (fm x).isSome = true) := Lib.hid fun x => by rw [hs2, hperm.mem_iff, HMEM.out]
  have HKL : Hid (∀ x ∈ ks, x.length ≤ maxLen) := Lib.hid fun x hx => HLE.out x (hperm.mem_iff.1 ((hs2 x).1 hx))
  have HKS := Lib.hid hs1
  have hkn : ks.length ≤ n := by rw [hs3, hperm.length_eq]; have h1 : (strKeys D).length ≤ Maps.size D := (by cases D <;> simp [strKeys, Maps.size]); omega
  rw [← hs3] at hrow
  clear hs1 hs2 hs3 hperm HND HMEM HLE
  have hb2' : Below w.heap.size w w2 := (Below.of_alloc _).trans (hb2.mono (by simp))
  have hB2 : B ≤ w2.heap.size := by have := hb2'.size; omega
  have hrd : Rd w2 (· < w2.heap.size) 1 vk ks.length (ks.map encStr) := (Rd.of_own hrow).wide fun _ hb => hb.2
  obtain ⟨Ak, ck, rfl, k1, k2, k3⟩ := hrd.open_
  clear k3 hrow hb2
  unfold maxLen at k2
  go_wp2_with fail
  go_loopw [3, 10] (fun out i wr => ListRel B fm ks w2 out i wr) (fun _ i _ => ks.length - (intOf i).toNat)
  case atStart => exact ⟨0, Nat.zero_le _, rfl, FlsOwn.nil _ _ _, Below.refl _ _⟩
  case round =>
    obtain ⟨k, hk, rfl, hO, hbr⟩ := hrel
    have hBr : B ≤ wr.heap.size := by have := hbr.size; omega
    have hbw : Below w.heap.size w wr := hb2'.trans (hbr.mono hb2'.size)
    by_cases hlt : k < ks.length
    · have hrd' := Rd.keep hrd (fun b hb => hbr.block b hb)
      obtain ⟨bk, ok, rfl, _, hck⟩ := Rd.plain hrd' (by omega) (by omega)
      have hc0 : wr.cell? ⟨bk, ok + k, none⟩ = some (.string (strB ks[k])) := hck k _ (by rw [List.getElem?_map, List.getElem?_eq_getElem hlt]; rfl)
      have hMr : MapIs wr M n g := hM'.block (hbw.block M hML)
      have hkl := HKL.out _ (List.getElem_mem hlt)
      have hlk := hMr.look ks[k] hkl
      have hGr := hG.chg hB (Chg.of_below hbw (fun _ => False)) (fun _ _ h => h)
      have hdk := hGr.get ks[k]
      have hlz := HZ.out ks[k]
      have HT : Hid ((ks.take (k + 1)).map (fun k => (k, (fm k).getD [])) = (ks.take k).map (fun k => (k, (fm k).getD [])) ++ [(ks[k], (fm ks[k]).getD [])]) := Lib.hid (by rw [List.take_succ_eq_append_getElem hlt, List.map_append]; rfl)
      generalize (g ks[k]).getD (.slice none 0 0) = gv at *
      generalize (fm ks[k]).getD [] = gl at *
      generalize ks[k] = kk at *
      clear hck hGr hMr
      obtain ⟨ps, hps, hpo, hpd⟩ := hO
      have hpl : ps.length = k := by have := congrArg List.length hps; simp at this; omega
      go_wp2_with fail
      (with_reducible refine (clone_any gv gl wr (hdk.rd hBr) hlz).mono ?_)
      rintro _ w3 ⟨v3, rfl, hO3, hb3⟩
      obtain ⟨A3, c3, rfl, _, _, _⟩ := hO3.rd.open_
      have hB3 : B ≤ w3.heap.size := by have := hb3.size; omega
      have hbs := hbr.size
      have hb3s := hb3.size
      have hpo3 : w3.ownsRow w2.heap.size 97 2 u3 ps.length (fileCs ps) := World.ownsRow.kept (row := none) hpo ⟨hb3.os, hb3.tape, hb3.output, hb3.size, fun k hk _ => hb3.block k hk⟩ (by cases u3.ownBlock <;> simp)
      have hpd3 : ∀ p ∈ ps, DatB B w3 p.2 p.1.2 := fun p hp => (hpd p hp).below hBr hb3
      have hdv3 : DatB B w3 (.slice A3 gl.length c3) gl := DatB.of_own hO3
      have hbr3 : Below w2.heap.size w2 w3 := hbr.trans (hb3.mono hbs)
      clear hpd hpo
      go_wp2_with (at_builtin; refine wpList_append_app _ rfl (.tmp 14) (.tmp 21) 36 rfl w2.heap.size 97 i0 _ 2 40 Try.underlying36 hi hz0 hz1 hz2 rfl (by omega) u3 ps.length (fileCs ps) rfl (by exact .inl (World.ownsRow.alloc hpo3 _)) (· = w3.heap.size) _ 1 (fileC ((kk, gl), .slice A3 gl.length c3)) rfl (by exact Rd.new' _ w3.heap.size rfl (fileC ((kk, gl), .slice A3 gl.length c3)) 97 2 1 rfl (by unfold maxLen; omega)) (fileC_one _ _ rfl) (by unfold maxLen; omega) (by omega) (by simp; omega) ?_; intro v4 w4 _ hO4 hg4 hb4 _)
      go_roundw
      case rel =>
        refine ⟨k + 1, by omega, by go_num, ?_, (hbr3.alloc hbr3.size _).trans hb4⟩
        rw [HT.out, ← hps]
        exact FlsOwn.push (dv := .slice A3 gl.length c3) (by simp; omega) hB2 (World.ownsRow.alloc hpo3 _) (fun p hp => (hpd3 p hp).alloc hB3 _) (hdv3.alloc hB3 _) hg4 (hO4 (.inl (by omega)))
      case measure => simp [intOf]; omega
    · have hke : k = ks.length := by omega
      subst hke
      rw [List.take_length] at hO
      go_wp2_with fail
      go_ret
      refine ⟨_, _, rfl, ?_, isL_keys HKS.out HKM.out, hbw⟩
      obtain ⟨ps, h1, h2, h3⟩ := hO
      exact ⟨ps, h1, own_base h2 hb2'.size, h3⟩

theorem DiskAt.sz {B Z : Nat} {w : World} {D : Nat} {P : Option Nat} {fm : FM} {os : List DOp} (h : DiskAt B Z w D P fm os) : DSz Z fm os := by
  obtain ⟨M, n, g, pv, h1, h2, h3, h4, h5, h6, h7, h8, _⟩ := h; exact h8
set_option maxRecDepth 100000 in
set_option maxHeartbeats 1000000 in
theorem dfiles_any (B Z D : Nat) (fm : FM) (os : List DOp) (w : World) (hB : B ≤ w.heap.size) (hD : DiskRd B Z w D fm os) (hZ : Z ≤ 1099511627776) :
    Calls Try.prog 26 #[.pointer (some ⟨D, 0, none⟩)] w (ListOut B fm w) := by
  obtain ⟨M, n, g, pv, hb, hBD, hBM, hM, hn, hG, hP, hZs⟩ := hD
  have hc0 : w.cell? ⟨D, 0, none⟩ = some (.map (some M)) := cell_of_row w D 0 _ _ _ hb
  have CL := Lib.hid (dlist_any B M n g fm w hB hM hG (by omega) (fun key => by have := hZs.get key; omega))
  go_enter Try.func26, Try.ntmps26
  go_wp2_with fail
  (with_reducible refine CL.out.mono ?_)
  rintro _ w1 ⟨v, fl, rfl, h1, h2, h3⟩
  go_wp2_with fail
  go_ret
  exact ⟨_, _, rfl, h1, h2, h3⟩
set_option maxRecDepth 100000 in
set_option maxHeartbeats 1000000 in
theorem dviewl_any (B Z D : Nat) (fm : FM) (os : List DOp) (w : World) (hB : B ≤ w.heap.size) (hD : DiskRd B Z w D fm os) (hZ : Z ≤ 1099511627776) :
    Calls Try.prog 27 #[.pointer (some ⟨D, 0, none⟩)] w (ListOut B (viewF fm os) w) := by
  have CV := Lib.hid (view_any B Z D fm os w hB hD hZ)
  obtain ⟨M, n, g, pv, hb, hBD, hBM, hM, hn, hG, hP, hZs⟩ := hD
  have HZS := Lib.hid hZs.view
  go_enter Try.func27, Try.ntmps27
  go_wp2_with fail
  (with_reducible refine CV.out.mono ?_)
  rintro _ w1 ⟨M1, n1, g1, rfl, hM1l, hM1, hn1, hG1, hb1⟩
  have hB1 : B ≤ w1.heap.size := by have := hb1.size; omega
  go_wp2_with fail
  (with_reducible refine (dlist_any B M1 n1 g1 _ w1 hB1 hM1 hG1 (by omega) (fun key => by have := HZS.out.get key; omega)).mono ?_)
  rintro _ w2 ⟨v, fl, rfl, ⟨ps, p1, p2, p3⟩, h2, h3⟩
  go_wp2_with fail
  go_ret
  exact ⟨_, _, rfl, ⟨ps, p1, own_base p2 hb1.size, p3⟩, h2, hb1.trans (h3.mono hb1.size)⟩
end Go.Proofs.Ytooojgokkigncaa
