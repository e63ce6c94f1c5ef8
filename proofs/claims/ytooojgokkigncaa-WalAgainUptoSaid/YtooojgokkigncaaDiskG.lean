/-
  Disks: a disk in other worlds; New, Sync, Read, exists, Pending.
-/
import Derived.Test.YtooojgokkigncaaDiskF
namespace Go.Proofs.Ytooojgokkigncaa
open Go.RowKit Go.Lib Go.IntWalk

/-- a block that no disk looks at -/
def NK (w : World) (b : Nat) : Prop := ∃ cs t fr, w.heap[b]? = some (.cells cs t fr) ∧ ¬ t = 5 ∧ ¬ t = 80 ∧ ¬ t = 92
section
variable {B Z : Nat} {w w' : World} {S : Nat → Prop} {D : Nat} {P : Option Nat} {fm : FM} {os : List DOp}
theorem NK.br {b : Nat} (hB : B ≤ b) (h : NK w b) : ¬ BR B w b := by
  obtain ⟨cs, t, fr, h1, h2, _⟩ := h
  rintro (h | ⟨cs', fr', h⟩)
  · omega
  · rw [h] at h1; simp only [Option.some.injEq, Obj.cells.injEq] at h1; exact h2 h1.2.1.symm
theorem DiskAt.keep (h : DiskAt B Z w D P fm os) (hB : B ≤ w.heap.size) (hc : Chg S w w') (hs : ∀ b, S b → B ≤ b ∧ NK w b) : DiskAt B Z w' D P fm os := by
  obtain ⟨M, n, g, pv, h1, h2, h3, h4, h5, h6, ⟨ps, q1, q2, q3⟩, h8, h9⟩ := h
  have hbr : ∀ b, BR B w b → ¬ S b := fun b hb hS => NK.br (hs b hS).1 (hs b hS).2 hb
  have hD : ¬ S D := fun hS => by
    obtain ⟨_, cs, t, fr, e, _, e2, _⟩ := hs D hS
    rw [h1] at e; simp only [Option.some.injEq, Obj.cells.injEq] at e; exact e2 e.2.1.symm
  have hM : ¬ S M := fun hS => by
    obtain ⟨_, cs, t, fr, e, _⟩ := hs M hS
    obtain ⟨es, clock, e'⟩ := h4.obj
    rw [e'] at e; cases e
  refine ⟨M, n, g, pv, (hc.block D (Array.getElem?_eq_some_iff.1 h1).1 hD).trans h1, h2, h3, h4.chg hc hM, h5, h6.chg hB hc hbr, ⟨ps, q1, ?_, q3.chg hB hc hbr⟩, h8, h9⟩
  refine ⟨q2.1, ?_⟩
  rcases q2.2 with ⟨rfl, h0⟩ | ⟨gb, cap, cur, rfl, hb, hg, hnc, hcm, hcs, htake⟩
  · exact .inl ⟨rfl, h0⟩
  · refine .inr ⟨gb, cap, cur, rfl, hb, ?_, hnc, hcm, hcs, htake⟩
    refine (hc.block gb (Array.getElem?_eq_some_iff.1 hg).1 fun hS => ?_).trans hg
    obtain ⟨_, cs, t, fr, e, _, _, e2⟩ := hs gb hS
    rw [hg] at e; simp only [Option.some.injEq, Obj.cells.injEq] at e; exact e2 e.2.1.symm
theorem DiskAt.below (h : DiskAt B Z w D P fm os) (hB : B ≤ w.heap.size) (hb : Below w.heap.size w w') : DiskAt B Z w' D P fm os :=
  h.keep hB (Chg.of_below hb (fun _ => False)) (fun _ h => h.elim)
theorem DiskAt.drew (h : DiskAt B Z w D P fm os) : DiskAt B Z w.drew D P fm os := h
theorem DiskAt.lt (h : DiskAt B Z w D P fm os) : B ≤ D ∧ D < w.heap.size := by
  obtain ⟨M, n, g, pv, h1, h2, _⟩ := h; exact ⟨h2, (Array.getElem?_eq_some_iff.1 h1).1⟩
theorem DSz.mono {Z' : Nat} (h : DSz Z fm os) (hZ : Z ≤ Z') : DSz Z' fm os := ⟨fun k l hl => by have := h.file k l hl; omega, by have := h.all; omega, h.op⟩
theorem DiskAt.mono {Z' : Nat} (h : DiskAt B Z w D P fm os) (hZ : Z ≤ Z') : DiskAt B Z' w D P fm os := by
  obtain ⟨M, n, g, pv, h1, h2, h3, h4, h5, h6, h7, h8, h9⟩ := h
  exact ⟨M, n, g, pv, h1, h2, h3, h4, by omega, h6, h7, h8.mono hZ, h9⟩
end

/-- a new disk -/
def DNew (B : Nat) (w0 : World) (e : Ending) (w : World) : Prop := ∃ D, e = .returned (.pointer (some ⟨D, 0, none⟩)) ∧ w0.heap.size ≤ D ∧ DiskAt B 0 w D none (fun _ => none) [] ∧ Below w0.heap.size w0 w
set_option maxHeartbeats 1000000 in
theorem dnew_any (B : Nat) (w : World) (hB : B ≤ w.heap.size) : Calls Try.prog 12 #[] w (DNew B w) := by
  have hmm : ∀ (t : TypeId) (w : World), (Instr.makeMap t none).run Try.prog w = .ok (.map (some w.heap.size)) (w.alloc (.map #[] 0)) := fun _ _ => rfl
  go_enter Try.func12, Try.ntmps12
  go_wp2_with fail
  go_ret
  refine ⟨w.heap.size + 1, rfl, by omega, ?_, (Below.of_alloc _).trans ((Below.of_alloc _).mono (by simp))⟩
  refine ⟨w.heap.size, 0, _, _, ?_, by omega, hB, (MapIs.made w).alloc _, Nat.le_refl _, (GRd.start _ _), ⟨[], rfl, World.ownsRow_nil _ _ _ _, fun p hp => by cases hp⟩, ⟨fun _ _ h => (by cases h), Nat.le_refl _, fun o ho => by cases ho⟩, rfl⟩
  have := heap_alloc_new (w.alloc (.map #[] 0)) (.cells #[.map (some w.heap.size), .slice none 0 0] 80)
  simpa using this

/-- the disk without buffered operations -/
def DSync (B Z D : Nat) (fm : FM) (w0 : World) (e : Ending) (w : World) : Prop := ∃ u, e = .returned u ∧ DiskAt B Z w D none fm [] ∧ Chg (· = D) w0 w
set_option maxRecDepth 100000 in
set_option maxHeartbeats 1000000 in
theorem dsync_any (B Z D : Nat) (fm : FM) (os : List DOp) (w : World) (hB : B ≤ w.heap.size) (hD : DiskRd B Z w D fm os) (hZ : Z ≤ 1099511627776) :
    Calls Try.prog 21 #[.pointer (some ⟨D, 0, none⟩)] w (DSync B Z D (viewF fm os) w) := by
  have CV := Lib.hid (view_any B Z D fm os w hB hD hZ)
  obtain ⟨M0, n0, g0, pv, hb, hBD, hBM, hM, hn, hG, hP, hZs⟩ := hD
  have HB := Lib.hid hb
  have hDl : D < w.heap.size := (Array.getElem?_eq_some_iff.1 hb).1
  clear hb hP
  go_enter Try.func21, Try.ntmps21
  go_wp2_with fail
  (with_reducible refine CV.out.mono ?_)
  rintro e w1 ⟨M, n, g, rfl, hMM, hM1, hn1, hG1, hb1⟩
  have hb' : w1.heap[D]? = some (.cells #[.map (some M0), pv] 80 (0, 0)) := (hb1.block D hDl).trans HB.out
  have q1 : w1.cell? ⟨D, 0, none⟩ = some (.map (some M0)) := cell_of_row w1 D 0 _ _ _ hb'
  have q2 : w1.frozen? ⟨D, 0, none⟩ = false := frozen_of_row w1 D 0 _ _ hb'
  have hb'' := heap_setCell_same w1 D 0 _ _ (.map (some M)) hb'
  have q3 : (w1.setCell ⟨D, 0, none⟩ (.map (some M))).cell? ⟨D, 1, none⟩ = some pv := cell_of_row _ D 1 _ _ _ hb''
  have q4 : (w1.setCell ⟨D, 0, none⟩ (.map (some M))).frozen? ⟨D, 1, none⟩ = false := frozen_of_row _ D 1 _ _ hb''
  have hb3 := heap_setCell_same _ D 1 _ _ (.slice none 0 0) hb''
  have HB1 := Lib.hid hb'
  have HB3 := Lib.hid hb3
  clear hb' hb'' hb3
  go_wp2_with fail
  go_end0
  have hC : Chg (· = D) w1 ((w1.setCell ⟨D, 0, none⟩ (.map (some M))).setCell ⟨D, 1, none⟩ (.slice none 0 0)) := Chg.setCell (S := (· = D)) (Chg.setCell (S := (· = D)) (Chg.refl _ w1) (.inl rfl) _) (.inl rfl) _
  have hB1 : B ≤ w1.heap.size := by have := hb1.size; omega
  refine ⟨_, rfl, ⟨M, n, g, .slice none 0 0, HB3.out, hBD, by omega, ?_, ?_, ?_, ⟨[], rfl, World.ownsRow_nil _ _ _ _, fun p hp => by cases hp⟩, hZs.view, rfl⟩, (Chg.of_below hb1 _).trans hC (fun _ _ h => h)⟩
  · exact hM1.chg hC (by omega)
  · simpa using hn1
  · exact hG1.chg hB1 hC (fun b hb => BR_not_cells hBD HB1.out (by decide) hb)

/-- bytes and whether there are any -/
def DRead (o : Option (List UInt8)) (w0 : World) (e : Ending) (w : World) : Prop := ∃ v, e = .returned (.tuple #[v, .bool o.isSome]) ∧ OwnB w w0.heap.size v (o.getD []) ∧ Below w0.heap.size w0 w
set_option maxRecDepth 100000 in
set_option maxHeartbeats 1000000 in
theorem dread_any (B Z D : Nat) (fm : FM) (os : List DOp) (nm : List UInt8) (w : World) (hB : B ≤ w.heap.size) (hD : DiskRd B Z w D fm os) (hZ : Z ≤ 1099511627776) (hk : nm.length ≤ maxLen) :
    Calls Try.prog 22 #[.pointer (some ⟨D, 0, none⟩), .string (strB nm)] w (DRead (viewF fm os nm) w) := by
  have CV := Lib.hid (view_any B Z D fm os w hB hD hZ)
  have hZs : DSz Z fm os := by obtain ⟨M0, n0, g0, pv, hb, hBD, hBM, hM, hn, hG, hP, hZs⟩ := hD; exact hZs
  have hln := hZs.view.get nm
  generalize viewF fm os = vf at *
  go_enter Try.func22, Try.ntmps22
  go_wp2_with fail
  (with_reducible refine CV.out.mono ?_)
  rintro e w1 ⟨M, n, g, rfl, hMM, hM1, hn1, hG1, hb1⟩
  have hlk := hM1.look_ok nm hk
  have hD0 := GRd.get hG1 nm
  rw [GRd.some_eq hG1 nm] at hlk
  have hB1 : B ≤ w1.heap.size := by have := hb1.size; omega
  generalize (g nm).getD (.slice none 0 0) = ov at *
  generalize vf nm = o at *
  go_wp2_with fail
  (with_reducible refine (clone_any ov (o.getD []) w1 (hD0.rd hB1) ?_).mono ?_)
  · omega
  rintro e w2 ⟨v, rfl, hO, hb2⟩
  go_wp2_with fail
  go_ret2
  exact ⟨_, rfl, OwnB.base hO hb1.size, hb1.trans (hb2.mono hb1.size)⟩

set_option maxRecDepth 100000 in
set_option maxHeartbeats 1000000 in
theorem dexists_any (B Z D : Nat) (fm : FM) (os : List DOp) (nm : List UInt8) (w : World) (hB : B ≤ w.heap.size) (hD : DiskRd B Z w D fm os) (hZ : Z ≤ 1099511627776) (hk : nm.length ≤ maxLen) :
    Calls Try.prog 55 #[.pointer (some ⟨D, 0, none⟩), .string (strB nm)] w fun e w' => e = .returned (.bool (viewF fm os nm).isSome) ∧ Below w.heap.size w w' := by
  have CV := Lib.hid (view_any B Z D fm os w hB hD hZ)
  generalize viewF fm os = vf at *
  generalize hob : (vf nm).isSome = o
  have HOB := Lib.hid hob
  clear hob
  go_enter Try.func55, Try.ntmps55
  go_wp2_with fail
  (with_reducible refine CV.out.mono ?_)
  rintro e w1 ⟨M, n, g, rfl, hMM, hM1, hn1, hG1, hb1⟩
  have hlk := hM1.look_ok nm hk
  rw [GRd.some_eq hG1 nm, HOB.out] at hlk
  generalize (g nm).getD (.slice none 0 0) = ov at *
  go_wp2_with fail
  go_ret
  exact ⟨rfl, hb1⟩

set_option maxHeartbeats 1000000 in
theorem dpending_any (B Z D : Nat) (P : Option Nat) (fm : FM) (os : List DOp) (w : World) (hD : DiskAt B Z w D P fm os) :
    Calls Try.prog 17 #[.pointer (some ⟨D, 0, none⟩)] w fun e w' => e = .returned (.int .i64 (os.length : Int)) ∧ w = w' := by
  obtain ⟨M, n, g, pv, hb, hBD, hBM, hM, hn, hG, ⟨ps, hps, hP, hO⟩, hZs⟩ := hD.rd
  have hl : os.length = ps.length := by rw [← hps, List.length_map]
  have hc1 : w.cell? ⟨D, 1, none⟩ = some pv := cell_of_row w D 1 _ _ _ hb
  obtain ⟨A, c, rfl, h1, h2, h3⟩ := Rd.open_ hP
  rw [hl]
  clear hl hps hb h3 hP hO hZs hD hG hM hn
  go_enter Try.func17, Try.ntmps17
  go_wp2_with fail
  go_ret
  exact ⟨rfl, rfl⟩
end Go.Proofs.Ytooojgokkigncaa
