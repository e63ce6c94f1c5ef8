/-
  Logs: repair and Open.
-/
import Derived.Test.YtooojgokkigncaaWalA
import Derived.Test.YtooojgokkigncaaScanPure
namespace Go.Proofs.Ytooojgokkigncaa
open Go.RowKit Go.Lib Go.IntWalk

def tornN : List UInt8 := [84, 79, 82, 78]
theorem tornV : Value.string ⟨#[84, 79, 82, 78]⟩ = .string (strB tornN) := rfl
theorem torn_word : wordF tornN = true := by decide
theorem torn_len : tornN.length ≤ maxLen := by decide
/-- the operations of a repair -/
def repOps (fm : FM) (os : List DOp) (nm cut : List UInt8) : List DOp :=
  (if (viewF fm os tornN).isSome = true then os ++ [⟨1, tornN, [], []⟩] else os) ++ [⟨0, tornN, [], cut⟩] ++ [⟨2, tornN, nm, []⟩]
theorem view_add (fm : FM) (os : List DOp) (nm cut : List UInt8) : (viewF fm (os ++ [⟨0, nm, [], cut⟩]) nm).isSome = true := by
  rw [viewF, List.foldl_append]; simp [applyF, updG]
/-- the disk without buffered operations -/
def DRep (B Z D : Nat) (P : Option Nat) (fm : FM) (w0 : World) (e : Ending) (w : World) : Prop := ∃ u, e = .returned u ∧ DiskAt B Z w D none fm [] ∧ Chg (fun b => b = D ∨ some b = P) w0 w

set_option maxRecDepth 100000 in
set_option maxHeartbeats 2000000 in
theorem repair_any (B Z D : Nat) (P : Option Nat) (fm : FM) (os : List DOp) (nm : List UInt8) (v : Value) (cut : List UInt8) (w : World) (hB : B ≤ w.heap.size) (hD : DiskAt B Z w D P fm os) (hw : wordF nm = true) (hv : DatB B w v cut) (hcl : cut.length ≤ 1073741824) (hZ : Z ≤ 1073741824) :
    Calls Try.prog 49 #[.pointer (some ⟨D, 0, none⟩), .string (strB nm), v] w (DRep B (Z + cut.length + 3) D P (viewF fm (repOps fm os nm cut)) w) := by
  have CR := Lib.hid (dread_any B Z D fm os tornN w hB hD.rd (by omega) torn_len)
  generalize hex : viewF fm os tornN = ex at CR
  have HEX := Lib.hid hex
  clear hex
  have HREP : Hid (repOps fm os nm cut = (if ex.isSome = true then os ++ [⟨1, tornN, [], []⟩] else os) ++ [⟨0, tornN, [], cut⟩] ++ [⟨2, tornN, nm, []⟩]) := Lib.hid (by unfold repOps; rw [HEX.out])
  generalize repOps fm os nm cut = rops at *
  obtain ⟨A, c, rfl, c1, c2, c3⟩ := Rd.open_ hv
  clear c3
  -- the way from the append on
  have HREST : Hid (∀ (w2 : World) (P2 : Option Nat) (os2 : List DOp), B ≤ w2.heap.size → DiskAt B (Z + 1) w2 D P2 fm os2 → DatB B w2 (.slice A cut.length c) cut → True) := Lib.hid (fun _ _ _ _ _ _ => trivial)
  clear HREST
  go_enter Try.func49, Try.ntmps49
  go_wp2_with fail
  rw [tornV]
  (with_reducible refine CR.out.mono ?_)
  rintro e w1 ⟨v1, rfl, hO1, hb1⟩
  have hD1 := hD.below hB hb1
  have hB1 : B ≤ w1.heap.size := by have := hb1.size; omega
  have hv1 := hv.below hB hb1
  cases hs : ex.isSome with
  | true =>
    have HRE : Hid (rops = os ++ [⟨1, tornN, [], []⟩] ++ [⟨0, tornN, [], cut⟩] ++ [⟨2, tornN, nm, []⟩]) := Lib.hid (by rw [HREP.out, hs]; rfl)
    clear HREP
    have HXX : Hid ((viewF fm os tornN).isSome = true) := Lib.hid (by rw [HEX.out]; exact hs)
    clear hs
    go_wp2_with fail
    rw [tornV]
    (with_reducible refine (dremove_ok B Z D P fm os tornN w1 hB1 hD1 torn_len (by omega) HXX.out).mono ?_)
    rintro e w2 ⟨rfl, P2, hD2, hP2, hC2⟩
    have hB2 : B ≤ w2.heap.size := by have := hC2.size; omega
    have hv2 := hv1.chg hB1 hC2 hD1.br
    go_wp2_with fail
    rw [tornV]
    (with_reducible refine (dappend_ok B (Z + 1) D P2 fm _ tornN _ cut w2 hB2 hD2 torn_word (hv2.rd hB2) (by omega) (by omega)).mono ?_)
    rintro e w3 ⟨rfl, P3, hD3, hP3, hC3⟩
    have hB3 : B ≤ w3.heap.size := by have := hC3.size; omega
    have HX3 := Lib.hid (view_add fm (os ++ [⟨1, tornN, [], []⟩]) tornN cut)
    go_wp2_with fail
    rw [tornV]
    (with_reducible refine (drename_ok B (Z + 1 + cut.length + 1) D P3 fm _ tornN nm w3 hB3 hD3 torn_len (by omega) HX3.out hw).mono ?_)
    rintro e w4 ⟨rfl, P4, hD4, hP4, hC4⟩
    have hB4 : B ≤ w4.heap.size := by have := hC4.size; omega
    go_wp2_with fail
    (with_reducible refine (dsync_any B (Z + 1 + cut.length + 1 + 1) D fm _ w4 hB4 hD4.rd (by omega)).mono ?_)
    rintro e w5 ⟨u, rfl, hD5, hC5⟩
    go_wp2_with fail
    go_end0
    have hre := HRE.out
    refine ⟨_, rfl, ?_, ?_⟩
    · rw [hre, show Z + cut.length + 3 = Z + 1 + cut.length + 1 + 1 by omega]; exact hD5
    · have hq1 := push_trans hC2.size hP2 hP3
      have hq2 := push_trans (Nat.le_trans hC2.size hC3.size) hq1 hP4
      have hz : Chg (fun b => b = D ∨ some b = P4) w4 w5 := hC5.mono (fun i hi => .inl hi)
      have := chg_push hq2 (chg_push hq1 (chg_push hP2 hC2 hC3) hC4) hz
      exact (Chg.of_below hb1 _).trans this (fun _ _ h => h)
  | false =>
    have HRE : Hid (rops = os ++ [⟨0, tornN, [], cut⟩] ++ [⟨2, tornN, nm, []⟩]) := Lib.hid (by rw [HREP.out, hs]; rfl)
    clear HREP
    clear hs
    go_wp2_with fail
    rw [tornV]
    (with_reducible refine (dappend_ok B Z D P fm os tornN _ cut w1 hB1 hD1 torn_word (hv1.rd hB1) (by omega) (by omega)).mono ?_)
    rintro e w3 ⟨rfl, P3, hD3, hP3, hC3⟩
    have hB3 : B ≤ w3.heap.size := by have := hC3.size; omega
    have HX3 := Lib.hid (view_add fm os tornN cut)
    go_wp2_with fail
    rw [tornV]
    (with_reducible refine (drename_ok B (Z + cut.length + 1) D P3 fm _ tornN nm w3 hB3 hD3 torn_len (by omega) HX3.out hw).mono ?_)
    rintro e w4 ⟨rfl, P4, hD4, hP4, hC4⟩
    have hB4 : B ≤ w4.heap.size := by have := hC4.size; omega
    go_wp2_with fail
    (with_reducible refine (dsync_any B (Z + cut.length + 1 + 1) D fm _ w4 hB4 hD4.rd (by omega)).mono ?_)
    rintro e w5 ⟨u, rfl, hD5, hC5⟩
    go_wp2_with fail
    go_end0
    have hre := HRE.out
    refine ⟨_, rfl, ?_, ?_⟩
    · rw [hre]; exact hD5.mono (by omega)
    · have hq2 := push_trans hC3.size hP3 hP4
      have hz : Chg (fun b => b = D ∨ some b = P4) w4 w5 := hC5.mono (fun i hi => .inl hi)
      have := chg_push hq2 (chg_push hP3 hC3 hC4) hz
      exact (Chg.of_below hb1 _).trans this (fun _ _ h => h)
end Go.Proofs.Ytooojgokkigncaa
