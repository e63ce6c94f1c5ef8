/-
  Disks: Crash.
-/
import Derived.Test.YtooojgokkigncaaDiskH
namespace Go.Proofs.Ytooojgokkigncaa
open Go.RowKit Go.Lib Go.IntWalk

/-- what survives of an operation that is torn -/
def tornOp (o : DOp) (torn : Int) : List DOp := if o.kind = 0 ∧ 0 < torn then [⟨0, o.name, o.to, o.data.take torn.toNat⟩] else []
/-- the operations that a crash carries out -/
def crashOps (os : List DOp) (keep torn : Int) : List DOp :=
  os.take keep.toNat ++ (match os[keep.toNat]? with | some o => tornOp o torn | none => [])

theorem flat_take {α β : Type} (n : Nat) (f : α → List β) (hf : ∀ x, (f x).length = n) (ps : List α) (k : Nat) (hk : k ≤ ps.length) : (ps.flatMap f).take (k * n) = (ps.take k).flatMap f := by
  have h : ps.flatMap f = (ps.take k).flatMap f ++ (ps.drop k).flatMap f := by rw [← List.flatMap_append, List.take_append_drop]
  rw [h, List.take_left' (by rw [flat_len n f hf, List.length_take]; congr 1; omega)]
theorem Rd.pre {w : World} {F : Nat → Prop} {size n k c : Nat} {A : Option Addr} {cs : List Value} (h : Rd w F size (.slice A n c) n cs) (hk : k ≤ n) : Rd w F size (.slice A k c) k (cs.take (k * size)) := by
  obtain ⟨h1, A', c', hv, h2, h3, h4, h5⟩ := h
  injection hv with e1 e2 e3
  subst e1; subst e3
  refine ⟨?_, A, c, rfl, by omega, h3, h4, fun hp => ?_⟩
  · rw [List.length_take, h1]
    have : k * size ≤ n * size := Nat.mul_le_mul_right _ hk
    omega
  · obtain ⟨ad, e, hF, hc⟩ := h5 (by omega)
    refine ⟨ad, e, hF, fun j u hu => ?_⟩
    rw [List.getElem?_take] at hu
    split at hu
    · exact hc j u hu
    · cases hu
theorem Rd.preWhole {w : World} {F : Nat → Prop} {size n k c : Nat} {A : Option Addr} {cs : List Value} (h : Rd w F size (.slice A n c) n cs) (hk : k ≤ n) : Rd w F size (.slice A k k) k (cs.take (k * size)) := by
  have := h.pre hk
  obtain ⟨h1, A', c', hv, h2, h3, h4, h5⟩ := this
  injection hv with e1 e2 e3
  subst e1; subst e3
  exact ⟨h1, A, k, rfl, Nat.le_refl _, by omega, fun h => by have := h4 h; omega, h5⟩
theorem DatB.take {B : Nat} {w : World} {A : Option Addr} {c : Nat} {l : List UInt8} (h : DatB B w (.slice A l.length c) l) (m : Nat) (hm : m ≤ l.length) : DatB B w (.slice A m c) (l.take m) := by
  have := Rd.pre h hm
  unfold DatB RdB
  rw [List.length_take, Nat.min_eq_left hm]
  rw [Nat.mul_one] at this
  have e : bv (l.take m) = (bv l).take m := by simp [bv]
  rw [e]
  exact this
theorem dsum_append (a b : List DOp) : dsum (a ++ b) = dsum a + dsum b := by simp [dsum]
theorem dsum_take_le (os : List DOp) (k : Nat) : dsum (os.take k) + dsum (os.drop k) = dsum os := by rw [← dsum_append, List.take_append_drop]
theorem DSz.sub {Z : Nat} {fm : FM} {os os' : List DOp} (h : DSz Z fm os) (hs : dsum os' ≤ dsum os) (ho : ∀ o ∈ os', o.kind ≤ 2 ∧ o.name.length ≤ maxLen ∧ o.to.length ≤ maxLen) : DSz Z fm os' :=
  ⟨fun k l hl => by have := h.file k l hl; omega, by have := h.all; omega, ho⟩
theorem own_base {w : World} {b b' : Nat} {e : TypeId} {size n : Nat} {v : Value} {cs : List Value} (h : w.ownsRow b e size v n cs) (hb : b' ≤ b) : w.ownsRow b' e size v n cs := by
  refine ⟨h.1, ?_⟩
  rcases h.2 with ⟨rfl, h0⟩ | ⟨g, cap, cur, rfl, hB, hg, hnc, hcm, hcs, htake⟩
  · exact .inl ⟨rfl, h0⟩
  · exact .inr ⟨g, cap, cur, rfl, by omega, hg, hnc, hcm, hcs, htake⟩
theorem World.size_drew' (w : World) : w.drew.heap.size = w.heap.size := rfl
theorem crash_none {os : List DOp} {keep torn : Int} {k : Nat} (hk : keep.toNat = k) (h : os[k]? = none) : crashOps os keep torn = os.take k := by
  unfold crashOps; rw [hk, h]; simp
theorem crash_some {os : List DOp} {keep torn : Int} {k : Nat} {o : DOp} (hk : keep.toNat = k) (h : os[k]? = some o) : crashOps os keep torn = os.take k ++ tornOp o torn := by
  unfold crashOps; rw [hk, h]
theorem dsum_torn (o : DOp) (torn : Int) : dsum (tornOp o torn) ≤ o.data.length ∧ (tornOp o torn).length ≤ 1 := by
  unfold tornOp
  split
  · simp [dsum]; omega
  · simp [dsum]
theorem DSz.crash {Z : Nat} {fm : FM} {os : List DOp} (h : DSz Z fm os) (keep torn : Int) : DSz Z fm (crashOps os keep torn) ∧ (crashOps os keep torn).length ≤ os.length := by
  cases hk : os[keep.toNat]? with
  | none =>
    rw [crash_none rfl hk]
    have := dsum_take_le os keep.toNat
    exact ⟨h.sub (by omega) fun o ho => h.op o (List.mem_of_mem_take ho), by rw [List.length_take]; omega⟩
  | some o =>
    rw [crash_some rfl hk]
    obtain ⟨hlt, e⟩ := List.getElem?_eq_some_iff.1 hk
    have h1 := dsum_take_le os keep.toNat
    have h2 := dsum_drop hk
    have h3 := dsum_torn o torn
    refine ⟨h.sub (by rw [dsum_append]; omega) fun x hx => ?_, by rw [List.length_append, List.length_take]; omega⟩
    rcases List.mem_append.1 hx with hx | hx
    · exact h.op x (List.mem_of_mem_take hx)
    · have ho := h.op o (List.mem_of_getElem? hk)
      unfold tornOp at hx
      split at hx
      · rw [List.mem_singleton] at hx; subst hx; exact ⟨by simp, ho.2⟩
      · cases hx

/-- other operations are set -/
theorem disk_set {B Z D : Nat} {fm : FM} {os' : List DOp} {M n : Nat} {g : List UInt8 → Option Value} {pv pv' : Value} {w : World} (hB : B ≤ w.heap.size)
    (hD : w.heap[D]? = some (.cells #[.map (some M), pv] 80 (0, 0))) (hBD : B ≤ D) (hBM : B ≤ M) (hM : MapIs w M n g) (hn : n + os'.length ≤ Z) (hG : GRd B w g fm) (hP : PRd B w pv' os') (hZ : DSz Z fm os') :
    DiskRd B Z (w.setCell ⟨D, 1, none⟩ pv') D fm os' := by
  have hC : Chg (· = D) w (w.setCell ⟨D, 1, none⟩ pv') := Chg.setCell (S := (· = D)) (Chg.refl _ w) (.inl rfl) _
  have hbr : ∀ b, BR B w b → ¬ b = D := fun b hb => BR_not_cells hBD hD (by decide) hb
  refine ⟨M, n, g, pv', ?_, hBD, hBM, hM.chg hC ?_, hn, hG.chg hB hC hbr, ?_, hZ⟩
  · have := heap_setCell_same w D 1 _ _ pv' hD
    simpa using this
  · rintro rfl
    obtain ⟨es, clock, hm⟩ := hM.obj
    rw [hD] at hm; cases hm
  · obtain ⟨ps, h1, h2, h3⟩ := hP
    have hk : ∀ b, OR w b → (w.setCell ⟨D, 1, none⟩ pv').heap[b]? = w.heap[b]? := by
      rintro b ⟨cs, hb⟩
      refine hC.block b (Array.getElem?_eq_some_iff.1 hb).1 ?_
      rintro rfl
      rw [hD] at hb
      simp only [Option.some.injEq, Obj.cells.injEq] at hb
      exact absurd hb.2.1 (by decide)
    exact ⟨ps, h1, (Rd.keep h2 hk).wide fun b hb' => by obtain ⟨cs, e⟩ := hb'; exact ⟨cs, (hk b ⟨cs, e⟩).trans e⟩, h3.chg hB hC hbr⟩

theorem DSync.after {B Z D : Nat} {fm : FM} {w0 w1 : World} {e : Ending} {w : World} (h : DSync B Z D fm w1 e w) (hc : Chg (· = D) w0 w1) : DSync B Z D fm w0 e w := by
  obtain ⟨u, h1, h2, h3⟩ := h
  exact ⟨u, h1, h2, hc.trans h3 (fun _ _ h => h)⟩

set_option maxRecDepth 100000 in
set_option maxHeartbeats 4000000 in
theorem dcrash_any (B Z D : Nat) (P : Option Nat) (fm : FM) (os : List DOp) (keep torn : Int) (w : World) (hB : B ≤ w.heap.size) (hD : DiskAt B Z w D P fm os) (hZ : Z ≤ 1099511627776) :
    Calls Try.prog 18 #[.pointer (some ⟨D, 0, none⟩), .int .i64 keep, .int .i64 torn] w (DSync B Z D (viewF fm (crashOps os keep torn)) w) := by
  obtain ⟨M, n, g, pv, hb, hBD, hBM, hM, hn, hG, ⟨ps, hps, hP, hO⟩, hZs⟩ := hD.rd
  clear hD
  have hDl : D < w.heap.size := (Array.getElem?_eq_some_iff.1 hb).1
  have hc1 : w.cell? ⟨D, 1, none⟩ = some pv := cell_of_row w D 1 _ _ _ hb
  have hf1 : w.frozen? ⟨D, 1, none⟩ = false := frozen_of_row w D 1 _ _ hb
  obtain ⟨A, c, rfl, h1, h2, h3⟩ := Rd.open_ hP
  have hl : os.length = ps.length := by rw [← hps, List.length_map]
  obtain ⟨k, hk⟩ : ∃ k : Nat, k = min keep.toNat ps.length := ⟨_, rfl⟩
  have hkn : k ≤ ps.length := by omega
  obtain ⟨mk, hma⟩ : ∃ mk : Int, (if keep < 0 then 0 else keep) = mk := ⟨_, rfl⟩
  have hmb : (if (ps.length : Int) < mk then (ps.length : Int) else mk) = (k : Int) := by split at hma <;> split <;> omega
  have hpl : ps.length ≤ Z := by omega
  have hcr := hZs.crash keep torn
  have HCR := Lib.hid hcr
  have hC1 : Chg (· = D) w (w.setCell ⟨D, 1, none⟩ (.slice A k c)) := Chg.setCell (S := (· = D)) (Chg.refl _ w) (.inl rfl) _
  obtain ⟨i0, hi, hz0, hz1, hz2⟩ := info_parts infoO
  have hslo := run_slice_lo (P := Try.prog) (size := 4) Try.underlying78 hi hz1 A ps.length c k hkn
  have hshi := run_slice_hi (P := Try.prog) Try.underlying78 hi A ps.length c k (by omega)
  have hpre := hP.pre hkn
  have etk : (opCs ps).take (k * 4) = opCs (ps.take k) := flat_take 4 opC opC_len ps k hkn
  have eot : (ps.take k).map (·.1) = os.take k := by rw [← hps, List.map_take]
  have hltk : (ps.take k).length = k := by rw [List.length_take]; omega
  rw [etk] at hpre
  have hPk : PRd B w (.slice A k c) (os.take k) := ⟨ps.take k, eot, by rw [hltk]; exact hpre, fun p hp => hO p (List.mem_of_mem_take hp)⟩
  by_cases hlt : k < ps.length
  · -- an operation is left
    have hmk : mk = (k : Int) := by split at hmb <;> omega
    subst hmk
    have hmc : ¬ (ps.length : Int) < (k : Int) := by omega
    clear hmb
    have hkk : keep.toNat = k := by omega
    have hpk : ps[k]? = some ps[k] := List.getElem?_eq_getElem hlt
    have hok : os[k]? = some ps[k].1 := by rw [← hps, List.getElem?_map, hpk]; rfl
    obtain ⟨b, off, rfl, ⟨cs0, hOb⟩, g0, g1, g2, g3⟩ := PRd.elem hP hpk
    have hdk : DatB B w ps[k].2 ps[k].1.data := hO _ (List.getElem_mem hlt)
    have hce := crash_some (torn := torn) hkk hok
    have hbD : ¬ b = D := by
      rintro rfl
      rw [hb] at hOb
      simp only [Option.some.injEq, Obj.cells.injEq] at hOb
      exact absurd hOb.2.1 (by decide)
    have hoo := hZs.op _ (List.mem_of_getElem? hok)
    have hcut : cutA (some (⟨b, off, none⟩ : Addr)) c k 4 = some ⟨b, off + k * 4, none⟩ := by
      unfold cutA Addr.add
      rw [if_neg (by omega)]
      simp only [Option.map_some, Option.some.injEq]
      split
      · rename_i h0; rw [h0]; rfl
      · rfl
    rw [hcut] at hslo
    have kept : ∀ o, (w.setCell ⟨D, 1, none⟩ (.slice (some ⟨b, off, none⟩) k c)).cell? ⟨b, o, none⟩ = w.cell? ⟨b, o, none⟩ := fun o => World.cell?_of_block (hC1.block b (Array.getElem?_eq_some_iff.1 hOb).1 hbD)
    have g0' := (kept _).trans g0
    have g1' := (kept _).trans g1
    have g2' := (kept _).trans g2
    have g3' := (kept _).trans g3
    have HPW := Lib.hid (hP.preWhole hkn)
    have HET := Lib.hid etk
    have HEO := Lib.hid eot
    have HLT := Lib.hid hltk
    have HBL := Lib.hid (Array.getElem?_eq_some_iff.1 hOb).1
    generalize ps[k] = p at *
    obtain ⟨⟨kd, nm, to, data⟩, dv⟩ := p
    simp only at g0 g1 g2 g3 g0' g1' g2' g3' hdk hce hoo
    have HCE := Lib.hid hce
    have HB := Lib.hid hb
    have HI := Lib.hid hi
    have HZ0 := Lib.hid hz0
    have HZ1 := Lib.hid hz1
    have HZ2 := Lib.hid hz2
    have HPK := Lib.hid hPk
    have HOB := Lib.hid hOb
    have HC1 := Lib.hid hC1
    have HK := Lib.hid hk
    have HG := Lib.hid hG
    have hr0 : (0 : Int) < ((ps.length - k : Nat) : Int) := by omega
    have hr1 : (0 : Nat) < ps.length - k := by omega
    clear hce hb hi hz0 hz1 hz2 hPk hOb hC1 hk hok hpk hps hl kept hcut h3 etk eot hltk hpre hcr
    unfold maxLen at h2
    by_cases hkd : kd = 0 ∧ 0 < torn
    · obtain ⟨rfl, ht⟩ := hkd
      rw [show ((0 : Nat) : Int) = 0 from rfl] at g0 g0'
      obtain ⟨Ad, cd, rfl, q1, q2, q3⟩ := Rd.open_ hdk
      obtain ⟨m, hm⟩ : ∃ m : Nat, m = min torn.toNat data.length := ⟨_, rfl⟩
      have hmi : (if (data.length : Int) < torn then (data.length : Int) else torn) = (m : Int) := by split <;> omega
      obtain ⟨j0, hj, _, _, _⟩ := info_parts infoB
      have hsd := run_slice_hi (P := Try.prog) Try.underlying23 hj Ad data.length cd m (by omega)
      have hsw := run_slice_him (P := Try.prog) Try.underlying78 HI.out (some ⟨b, off, none⟩) k c k k (Nat.le_refl _) (by omega)
      have hml : m ≤ data.length := by omega
      have edt : data.take torn.toNat = data.take m := by
        rw [hm]
        rcases Nat.le_total torn.toNat data.length with h | h
        · rw [Nat.min_eq_left h]
        · rw [Nat.min_eq_right h, List.take_of_length_le h, List.take_length]
      have hcops : crashOps os keep torn = os.take k ++ [⟨0, nm, to, data.take m⟩] := by
        rw [HCE.out, tornOp, if_pos ⟨rfl, ht⟩, edt]
      have hdm : DatB B w (.slice Ad m cd) (data.take m) := DatB.take hdk m hml
      have HCO := Lib.hid hcops
      have HDM := Lib.hid hdm
      -- the worlds
      have hW1 : (w.setCell ⟨D, 1, none⟩ (.slice (some ⟨b, off, none⟩) k c)).heap[D]? = some (.cells #[.map (some M), .slice (some ⟨b, off, none⟩) k c] 80 (0, 0)) := by
        have := heap_setCell_same w D 1 _ _ (.slice (some ⟨b, off, none⟩) k c) HB.out
        simpa using this
      have hs1 : (w.setCell ⟨D, 1, none⟩ (.slice (some ⟨b, off, none⟩) k c)).heap.size = w.heap.size := by simp [World.setCell]
      have hCh2 : Chg (· = D) w (((w.setCell ⟨D, 1, none⟩ (.slice (some ⟨b, off, none⟩) k c)).alloc (.cells #[.int .i64 0, .string (strB nm), .string (strB to), .slice Ad m cd] 92))) := HC1.out.alloc _
      have hs2 : (((w.setCell ⟨D, 1, none⟩ (.slice (some ⟨b, off, none⟩) k c)).alloc (.cells #[.int .i64 0, .string (strB nm), .string (strB to), .slice Ad m cd] 92))).heap.size = w.heap.size + 1 := by simp [World.setCell]
      have hCh3 : Chg (· = D) w ((((w.setCell ⟨D, 1, none⟩ (.slice (some ⟨b, off, none⟩) k c)).alloc (.cells #[.int .i64 0, .string (strB nm), .string (strB to), .slice Ad m cd] 92))).drew.alloc (.cells #[.int .i64 0, .string (strB nm), .string (strB to), .slice Ad m cd] 92)) := (hCh2.drew).alloc _
      have hs3 : (((w.setCell ⟨D, 1, none⟩ (.slice (some ⟨b, off, none⟩) k c)).alloc (.cells #[.int .i64 0, .string (strB nm), .string (strB to), .slice Ad m cd] 92)).drew.alloc (.cells #[.int .i64 0, .string (strB nm), .string (strB to), .slice Ad m cd] 92)).heap.size = w.heap.size + 2 := by simp [World.setCell]
      have hD2 : (((w.setCell ⟨D, 1, none⟩ (.slice (some ⟨b, off, none⟩) k c)).alloc (.cells #[.int .i64 0, .string (strB nm), .string (strB to), .slice Ad m cd] 92)).drew.alloc (.cells #[.int .i64 0, .string (strB nm), .string (strB to), .slice Ad m cd] 92)).heap[D]? = some (.cells #[.map (some M), .slice (some ⟨b, off, none⟩) k c] 80 (0, 0)) :=
        (Below.heap_alloc _ _ D (by rw [World.size_drew', hs2]; omega)).trans ((Below.heap_alloc _ _ D (by rw [hs1]; exact hDl)).trans hW1)
      have hH2 : (((w.setCell ⟨D, 1, none⟩ (.slice (some ⟨b, off, none⟩) k c)).alloc (.cells #[.int .i64 0, .string (strB nm), .string (strB to), .slice Ad m cd] 92)).drew.alloc (.cells #[.int .i64 0, .string (strB nm), .string (strB to), .slice Ad m cd] 92)).heap[w.heap.size]? = some (.cells #[.int .i64 0, .string (strB nm), .string (strB to), .slice Ad m cd] 92 (0, 0)) := by
        refine (Below.heap_alloc _ _ w.heap.size (by rw [World.size_drew', hs2]; omega)).trans ?_
        have := heap_alloc_new (w.setCell ⟨D, 1, none⟩ (.slice (some ⟨b, off, none⟩) k c)) (.cells #[.int .i64 0, .string (strB nm), .string (strB to), .slice Ad m cd] 92)
        rw [hs1] at this
        exact this
      have HS2 : Hid (∀ w3 : World, Below (w.heap.size + 1) (((w.setCell ⟨D, 1, none⟩ (.slice (some ⟨b, off, none⟩) k c)).alloc (.cells #[.int .i64 0, .string (strB nm), .string (strB to), .slice Ad m cd] 92)).drew.alloc (.cells #[.int .i64 0, .string (strB nm), .string (strB to), .slice Ad m cd] 92)) w3 → (fun w' => w'.cell? ⟨D, 1, none⟩ = some (.slice (some ⟨b, off, none⟩) k c) ∧ w'.cell? ⟨w.heap.size, 0, none⟩ = some (.int .i64 0) ∧ w'.cell? ⟨w.heap.size, 1, none⟩ = some (.string (strB nm)) ∧ w'.cell? ⟨w.heap.size, 2, none⟩ = some (.string (strB to)) ∧ w'.cell? ⟨w.heap.size, 3, none⟩ = some (.slice Ad m cd)) w3) := by
        refine Lib.hid fun w3 hb3 => ?_
        have e1 := (hb3.block D (by omega)).trans hD2
        have e2 := (hb3.block w.heap.size (by omega)).trans hH2
        exact ⟨cell_of_row w3 D 1 _ _ _ e1, cell_of_row w3 _ 0 _ _ _ e2, cell_of_row w3 _ 1 _ _ _ e2, cell_of_row w3 _ 2 _ _ _ e2, cell_of_row w3 _ 3 _ _ _ e2⟩
      have HS1 : Hid ((fun w' => w'.cell? ⟨D, 1, none⟩ = some (.slice (some ⟨b, off, none⟩) k c) ∧ w'.cell? ⟨w.heap.size, 0, none⟩ = some (.int .i64 0) ∧ w'.cell? ⟨w.heap.size, 1, none⟩ = some (.string (strB nm)) ∧ w'.cell? ⟨w.heap.size, 2, none⟩ = some (.string (strB to)) ∧ w'.cell? ⟨w.heap.size, 3, none⟩ = some (.slice Ad m cd)) (((w.setCell ⟨D, 1, none⟩ (.slice (some ⟨b, off, none⟩) k c)).alloc (.cells #[.int .i64 0, .string (strB nm), .string (strB to), .slice Ad m cd] 92)).drew.alloc (.cells #[.int .i64 0, .string (strB nm), .string (strB to), .slice Ad m cd] 92))) := Lib.hid (HS2.out _ (Below.refl _ _))
      have HS0 : Hid ((fun w' => w'.cell? ⟨D, 1, none⟩ = some (.slice (some ⟨b, off, none⟩) k c) ∧ w'.cell? ⟨w.heap.size, 0, none⟩ = some (.int .i64 0) ∧ w'.cell? ⟨w.heap.size, 1, none⟩ = some (.string (strB nm)) ∧ w'.cell? ⟨w.heap.size, 2, none⟩ = some (.string (strB to)) ∧ w'.cell? ⟨w.heap.size, 3, none⟩ = some (.slice Ad m cd)) ((((w.setCell ⟨D, 1, none⟩ (.slice (some ⟨b, off, none⟩) k c)).alloc (.cells #[.int .i64 0, .string (strB nm), .string (strB to), .slice Ad m cd] 92))).drew)) := by
        refine Lib.hid ?_
        have e1 : ((((w.setCell ⟨D, 1, none⟩ (.slice (some ⟨b, off, none⟩) k c)).alloc (.cells #[.int .i64 0, .string (strB nm), .string (strB to), .slice Ad m cd] 92))).drew).heap[D]? = _ := (Below.heap_alloc (w.setCell ⟨D, 1, none⟩ (.slice (some ⟨b, off, none⟩) k c)) (.cells #[.int .i64 0, .string (strB nm), .string (strB to), .slice Ad m cd] 92) D (by rw [hs1]; exact hDl)).trans hW1
        have e2 : ((((w.setCell ⟨D, 1, none⟩ (.slice (some ⟨b, off, none⟩) k c)).alloc (.cells #[.int .i64 0, .string (strB nm), .string (strB to), .slice Ad m cd] 92))).drew).heap[w.heap.size]? = some (.cells #[.int .i64 0, .string (strB nm), .string (strB to), .slice Ad m cd] 92 (0, 0)) := by
          have := heap_alloc_new (w.setCell ⟨D, 1, none⟩ (.slice (some ⟨b, off, none⟩) k c)) (.cells #[.int .i64 0, .string (strB nm), .string (strB to), .slice Ad m cd] 92)
          rw [hs1] at this
          exact this
        exact ⟨cell_of_row _ D 1 _ _ _ e1, cell_of_row _ _ 0 _ _ _ e2, cell_of_row _ _ 1 _ _ _ e2, cell_of_row _ _ 2 _ _ _ e2, cell_of_row _ _ 3 _ _ _ e2⟩
      have HD3 : Hid (∀ w3 : World, Below (w.heap.size + 1) (((w.setCell ⟨D, 1, none⟩ (.slice (some ⟨b, off, none⟩) k c)).alloc (.cells #[.int .i64 0, .string (strB nm), .string (strB to), .slice Ad m cd] 92)).drew.alloc (.cells #[.int .i64 0, .string (strB nm), .string (strB to), .slice Ad m cd] 92)) w3 → w3.heap[D]? = some (.cells #[.map (some M), .slice (some ⟨b, off, none⟩) k c] 80 (0, 0))) :=
        Lib.hid fun w3 hb3 => (hb3.block D (by omega)).trans hD2
      have HCW : Hid (∀ w3 : World, Below (w.heap.size + 1) (((w.setCell ⟨D, 1, none⟩ (.slice (some ⟨b, off, none⟩) k c)).alloc (.cells #[.int .i64 0, .string (strB nm), .string (strB to), .slice Ad m cd] 92)).drew.alloc (.cells #[.int .i64 0, .string (strB nm), .string (strB to), .slice Ad m cd] 92)) w3 → Chg (· = D) w w3) :=
        Lib.hid fun w3 hb3 => ⟨hb3.os.trans hCh3.os, hb3.tape.trans hCh3.tape, hb3.output.trans hCh3.output, Nat.le_trans hCh3.size hb3.size, fun i hi hn => (hb3.block i (by omega)).trans (hCh3.block i hi hn)⟩
      have HA : Hid (Rd (((w.setCell ⟨D, 1, none⟩ (.slice (some ⟨b, off, none⟩) k c)).alloc (.cells #[.int .i64 0, .string (strB nm), .string (strB to), .slice Ad m cd] 92)).drew.alloc (.cells #[.int .i64 0, .string (strB nm), .string (strB to), .slice Ad m cd] 92)) (· < w.heap.size + 1) 4 (.slice (some ⟨b, off, none⟩) k k) k (opCs (ps.take k)) ∧ ∃ A, Value.slice (some (⟨b, off, none⟩ : Addr)) k k = .slice A k k) := by
        refine Lib.hid ⟨?_, _, rfl⟩
        have h0 := HPW.out
        rw [HET.out] at h0
        have hk0 : ∀ i, OR w i → (((w.setCell ⟨D, 1, none⟩ (.slice (some ⟨b, off, none⟩) k c)).alloc (.cells #[.int .i64 0, .string (strB nm), .string (strB to), .slice Ad m cd] 92)).drew.alloc (.cells #[.int .i64 0, .string (strB nm), .string (strB to), .slice Ad m cd] 92)).heap[i]? = w.heap[i]? := by
          rintro i ⟨cs, hi'⟩
          refine hCh3.block i (Array.getElem?_eq_some_iff.1 hi').1 ?_
          rintro rfl
          rw [HB.out] at hi'
          simp only [Option.some.injEq, Obj.cells.injEq] at hi'
          exact absurd hi'.2.1 (by decide)
        refine (Rd.keep h0 hk0).wide ?_
        rintro i ⟨cs, hi'⟩
        have := (Array.getElem?_eq_some_iff.1 hi').1
        omega
      have HN : Hid (Rd (((w.setCell ⟨D, 1, none⟩ (.slice (some ⟨b, off, none⟩) k c)).alloc (.cells #[.int .i64 0, .string (strB nm), .string (strB to), .slice Ad m cd] 92)).drew.alloc (.cells #[.int .i64 0, .string (strB nm), .string (strB to), .slice Ad m cd] 92)) (· = w.heap.size + 1) 4 (.slice (some ⟨w.heap.size + 1, 0, none⟩) 1 1) 1 (opC (⟨0, nm, to, data.take m⟩, .slice Ad m cd))) :=
        Lib.hid (Rd.new' ((((w.setCell ⟨D, 1, none⟩ (.slice (some ⟨b, off, none⟩) k c)).alloc (.cells #[.int .i64 0, .string (strB nm), .string (strB to), .slice Ad m cd] 92))).drew) (w.heap.size + 1) (by rw [World.size_drew', hs2]) (opC (⟨0, nm, to, data.take m⟩, .slice Ad m cd)) 92 4 1 rfl (by unfold maxLen; omega))
      have HFIN : Hid (∀ (w3 : World) (A3 : Option Addr) (c3 : Nat), Below (w.heap.size + 1) (((w.setCell ⟨D, 1, none⟩ (.slice (some ⟨b, off, none⟩) k c)).alloc (.cells #[.int .i64 0, .string (strB nm), .string (strB to), .slice Ad m cd] 92)).drew.alloc (.cells #[.int .i64 0, .string (strB nm), .string (strB to), .slice Ad m cd] 92)) w3 → w3.ownsRow (w.heap.size + 1) 92 4 (.slice A3 (k + 1) c3) (k + 1) (opCs (ps.take k) ++ opC (⟨0, nm, to, data.take m⟩, .slice Ad m cd)) →
          DiskRd B Z (w3.setCell ⟨D, 1, none⟩ (.slice A3 (k + 1) c3)) D fm (crashOps os keep torn) ∧ Chg (· = D) w (w3.setCell ⟨D, 1, none⟩ (.slice A3 (k + 1) c3)) ∧ B ≤ (w3.setCell ⟨D, 1, none⟩ (.slice A3 (k + 1) c3)).heap.size) := by
        refine Lib.hid fun w3 A3 c3 hb3 hO3 => ?_
        have hC := HCW.out w3 hb3
        have hB3 : B ≤ w3.heap.size := by have := hC.size; omega
        have hbr : ∀ b, BR B w b → ¬ b = D := fun b hb => BR_not_cells hBD HB.out (by decide) hb
        refine ⟨disk_set hB3 (HD3.out w3 hb3) hBD hBM (hM.chg hC ?_) ?_ (HG.out.chg hB hC hbr) ?_ HCR.out.1, ?_, by simpa [World.setCell] using hB3⟩
        · rintro rfl
          obtain ⟨es, clock, hm'⟩ := hM.obj
          rw [HB.out] at hm'; cases hm'
        · have := HCR.out.2; omega
        · refine PRd.of_own (B := B) ⟨ps.take k ++ [(⟨0, nm, to, data.take m⟩, .slice Ad m cd)], ?_, ?_, ?_⟩
          · rw [HCO.out, List.map_append, HEO.out]; rfl
          · have e : opCs (ps.take k ++ [(⟨0, nm, to, data.take m⟩, .slice Ad m cd)]) = opCs (ps.take k) ++ opC (⟨0, nm, to, data.take m⟩, .slice Ad m cd) := by simp [opCs]
            rw [e, List.length_append, HLT.out]
            exact own_base hO3 (by omega)
          · intro p hp
            rcases List.mem_append.1 hp with hp | hp
            · exact (hO p (List.mem_of_mem_take hp)).chg hB hC hbr
            · rw [List.mem_singleton] at hp; subst hp; exact HDM.out.chg hB hC hbr
        · exact Chg.setCell (S := (· = D)) hC (.inl rfl) _
      clear hcops edt hm hdm hdk q3 hW1 hs1 hCh2 hs2 hCh3 hs3 hD2 hH2 hj HPW HET HEO HLT HCO HDM HG hO hP
      go_enter Try.func18, Try.ntmps18
      go_wp2_with fail
      refine wp_region_noPanic ?_
      refine beginT (S := (fun w' => w'.cell? ⟨D, 1, none⟩ = some (.slice (some ⟨b, off, none⟩) k c) ∧ w'.cell? ⟨w.heap.size, 0, none⟩ = some (.int .i64 0) ∧ w'.cell? ⟨w.heap.size, 1, none⟩ = some (.string (strB nm)) ∧ w'.cell? ⟨w.heap.size, 2, none⟩ = some (.string (strB to)) ∧ w'.cell? ⟨w.heap.size, 3, none⟩ = some (.slice Ad m cd))) 13 (by kernel_rfl) ?_ (fun hHeld => ?_)
      · exact HS0.out
      refine takeT 0 (some 60) (v := ?_) rfl rfl (by kernel_rfl) (by kernel_rfl) (by kernel_rfl) (by kernel_rfl) (by rfl) hHeld (fun _ _ _ h => h) ?_ ?_
      rotate_left
      · intro w' hSw; (try dsimp only at hSw); go_simp <;> with_reducible rfl
      simp only [Act.put, List.setIfInBounds_toArray, List.set_cons_zero, List.set_cons_succ]
      refine takeT 1 (some 61) (v := ?_) rfl rfl (by kernel_rfl) (by kernel_rfl) (by kernel_rfl) (by kernel_rfl) (by rfl) hHeld (fun _ _ _ h => h) ?_ ?_
      rotate_left
      · intro w' hSw; (try dsimp only at hSw); go_simp <;> with_reducible rfl
      simp only [Act.put, List.setIfInBounds_toArray, List.set_cons_zero, List.set_cons_succ]
      refine takeT 2 (some 62) (v := ?_) rfl rfl (by kernel_rfl) (by kernel_rfl) (by kernel_rfl) (by kernel_rfl) (by rfl) hHeld (fun _ _ _ h => h) ?_ ?_
      rotate_left
      · intro w' hSw; (try dsimp only at hSw); go_simp <;> with_reducible rfl
      simp only [Act.put, List.setIfInBounds_toArray, List.set_cons_zero, List.set_cons_succ]
      refine takeT 3 (some 63) (v := ?_) rfl rfl (by kernel_rfl) (by kernel_rfl) (by kernel_rfl) (by kernel_rfl) (by rfl) hHeld (fun _ _ _ h => h) ?_ ?_
      rotate_left
      · intro w' hSw; (try dsimp only at hSw); go_simp <;> with_reducible rfl
      simp only [Act.put, List.setIfInBounds_toArray, List.set_cons_zero, List.set_cons_succ]
      refine takeT 4 (some 64) (v := ?_) rfl rfl (by kernel_rfl) (by kernel_rfl) (by kernel_rfl) (by kernel_rfl) (by rfl) hHeld (fun _ _ _ h => h) ?_ ?_
      rotate_left
      · intro w' hSw; (try dsimp only at hSw); obtain ⟨s1, s2, s3, s4, s5⟩ := hSw; go_simp <;> with_reducible rfl
      simp only [Act.put, List.setIfInBounds_toArray, List.set_cons_zero, List.set_cons_succ]
      refine takeT 5 (some 65) (v := ?_) rfl rfl (by kernel_rfl) (by kernel_rfl) (by kernel_rfl) (by kernel_rfl) (by rfl) hHeld (fun _ _ _ h => h) ?_ ?_
      rotate_left
      · intro w' hSw; (try dsimp only at hSw); go_simp <;> with_reducible rfl
      simp only [Act.put, List.setIfInBounds_toArray, List.set_cons_zero, List.set_cons_succ]
      refine takeT 6 (some 66) (v := ?_) rfl rfl (by kernel_rfl) (by kernel_rfl) (by kernel_rfl) (by kernel_rfl) (by rfl) hHeld (fun _ _ _ h => h) ?_ ?_
      rotate_left
      · intro w' hSw; (try dsimp only at hSw); go_simp <;> with_reducible rfl
      simp only [Act.put, List.setIfInBounds_toArray, List.set_cons_zero, List.set_cons_succ]
      refine takeT 7 (some 67) (v := ?_) rfl rfl (by kernel_rfl) (by kernel_rfl) (by kernel_rfl) (by kernel_rfl) (by rfl) hHeld (fun _ _ _ h => h) ?_ ?_
      rotate_left
      · intro w' hSw; (try dsimp only at hSw); go_simp <;> with_reducible rfl
      simp only [Act.put, List.setIfInBounds_toArray, List.set_cons_zero, List.set_cons_succ]
      refine takeT 8 (some 68) (v := ?_) rfl rfl (by kernel_rfl) (by kernel_rfl) (by kernel_rfl) (by kernel_rfl) (by rfl) hHeld (fun _ _ _ h => h) ?_ ?_
      rotate_left
      · intro w' hSw; (try dsimp only at hSw); obtain ⟨s1, s2, s3, s4, s5⟩ := hSw; go_simp <;> with_reducible rfl
      simp only [Act.put, List.setIfInBounds_toArray, List.set_cons_zero, List.set_cons_succ]
      have hNew : (fun w' => w'.cell? ⟨D, 1, none⟩ = some (.slice (some ⟨b, off, none⟩) k c) ∧ w'.cell? ⟨w.heap.size, 0, none⟩ = some (.int .i64 0) ∧ w'.cell? ⟨w.heap.size, 1, none⟩ = some (.string (strB nm)) ∧ w'.cell? ⟨w.heap.size, 2, none⟩ = some (.string (strB to)) ∧ w'.cell? ⟨w.heap.size, 3, none⟩ = some (.slice Ad m cd)) ((((w.setCell ⟨D, 1, none⟩ (.slice (some ⟨b, off, none⟩) k c)).alloc (.cells #[.int .i64 0, .string (strB nm), .string (strB to), .slice Ad m cd] 92)).drew.alloc (.cells #[.int .i64 0, .string (strB nm), .string (strB to), .slice Ad m cd] 92))) := by exact HS1.out
      refine runT 9 (some 69) (v := Value.slice (some ⟨w.heap.size + 1, 0, none⟩) 1 1) (w' := (((w.setCell ⟨D, 1, none⟩ (.slice (some ⟨b, off, none⟩) k c)).alloc (.cells #[.int .i64 0, .string (strB nm), .string (strB to), .slice Ad m cd] 92)).drew.alloc (.cells #[.int .i64 0, .string (strB nm), .string (strB to), .slice Ad m cd] 92))) rfl rfl (by kernel_rfl) (by rfl) ?_ (fun _ => hNew) ?_
      · go_simp <;> with_reducible rfl
      clear hHeld
      have hHeld := hNew
      clear hNew
      simp only [Act.put, List.setIfInBounds_toArray, List.set_cons_zero, List.set_cons_succ]
      refine opT 10 rfl (by kernel_rfl) (by rfl) ?_
      refine wp_append_app _ (.tmp 67) (.tmp 69) 78 rfl (w.heap.size + 1) 92 i0 _ 4 64 Try.underlying78 HI.out HZ0.out HZ1.out HZ2.out rfl (by omega) (.slice (some ⟨b, off, none⟩) k k) k (opCs (ps.take k)) rfl (.inr HA.out) (· = w.heap.size + 1) _ 1 (opC (⟨0, nm, to, data.take m⟩, .slice Ad m cd)) rfl HN.out (opC_one _ rfl) (by unfold maxLen; omega) (by omega) (by simp) ?_
      intro v' w3 _ hO3 hg3 hb3 hv3
      have hO3 := hO3 (.inl (by omega))
      have hD3 := HD3.out w3 hb3
      have kf : w3.frozen? ⟨D, 1, none⟩ = false := frozen_of_row w3 D 1 _ _ hD3
      have kc : w3.cell? ⟨D, 1, none⟩ = some (.slice (some ⟨b, off, none⟩) k c) := cell_of_row w3 D 1 _ _ _ hD3
      obtain ⟨A3, c3, rfl, z1, z2, z3⟩ := Rd.open_ (Rd.of_own hO3)
      clear z3 z2
      refine keepAnd ?_ (fun hNew => ?_)
      · intro _; exact HS2.out w3 hb3
      have hNew := hNew (by decide)
      clear hHeld
      have hHeld := hNew
      clear hNew
      simp only [Act.put, List.setIfInBounds_toArray, List.set_cons_zero, List.set_cons_succ]
      refine runT 11 (some 71) (v := ?_) (w' := _) rfl rfl (by kernel_rfl) (by rfl) ?_ (fun _ => hHeld) ?_
      rotate_left
      · go_simp <;> with_reducible rfl
      simp only [Act.put, List.setIfInBounds_toArray, List.set_cons_zero, List.set_cons_succ]
      refine takeT 12 (some 72) (v := ?_) rfl rfl (by kernel_rfl) (by kernel_rfl) (by kernel_rfl) (by kernel_rfl) (by rfl) hHeld (fun _ _ _ h => h) ?_ ?_
      rotate_left
      · intro w' hSw; (try dsimp only at hSw); go_simp <;> with_reducible rfl
      simp only [Act.put, List.setIfInBounds_toArray, List.set_cons_zero, List.set_cons_succ]
      refine skipRunT 13 none (w' := w3.setCell ⟨D, 1, none⟩ (.slice A3 (k + 1) c3)) rfl rfl (by kernel_rfl) (by rfl) ?_ (fun h => absurd rfl h) ?_
      · go_simp <;> with_reducible rfl
      clear hHeld
      simp only [Act.put]
      refine doneT (by kernel_rfl) ?_ _
      refine NoPanic.normal ?_
      have hfin := HFIN.out w3 A3 c3 hb3 hO3
      go_wp2_with fail
      (with_reducible refine (dsync_any B Z D fm (crashOps os keep torn) _ ?_ ?_ hZ).mono ?_)
      · exact hfin.2.2
      · exact hfin.1
      rintro e w4 hS
      obtain ⟨u, rfl, hS1, hS2⟩ := hS.after hfin.2.1
      go_wp2_with fail
      go_end0
      exact ⟨_, rfl, hS1, hS2⟩
    · have hcops : crashOps os keep torn = os.take k := by
        rw [HCE.out, tornOp, if_neg hkd, List.append_nil]
      have hDR : DiskRd B Z (w.setCell ⟨D, 1, none⟩ (.slice (some ⟨b, off, none⟩) k c)) D fm (crashOps os keep torn) := by
        have hz := HCR.out
        rw [hcops] at hz ⊢
        exact disk_set hB HB.out hBD hBM hM (by rw [List.length_take]; omega) HG.out HPK.out hz.1
      generalize crashOps os keep torn = co at *
      have CS := Lib.hid (dsync_any B Z D fm co (w.setCell ⟨D, 1, none⟩ (.slice (some ⟨b, off, none⟩) k c)) (by simpa [World.setCell] using hB) hDR hZ)
      clear hcops hDR hP hdk hO g1 g2 g3 g1' g2' g3'
      by_cases hk0 : kd = 0
      · subst hk0
        have ht : ¬ 0 < torn := fun h => hkd ⟨rfl, h⟩
        rw [show ((0 : Nat) : Int) = 0 from rfl] at g0'
        clear hkd g0
        go_enter Try.func18, Try.ntmps18
        go_wp2_with fail
        (with_reducible refine CS.out.mono ?_)
        rintro e w1 hS
        obtain ⟨u, rfl, hS1, hS2⟩ := hS.after HC1.out
        go_wp2_with fail
        go_end0
        exact ⟨_, rfl, hS1, hS2⟩
      · have hk1 : ((kd : Int) == 0) = false := by simp; exact hk0
        have HK0 := Lib.hid hk0
        clear hkd g0 hk0
        go_enter Try.func18, Try.ntmps18
        go_wp2_with fail
        (with_reducible refine CS.out.mono ?_)
        rintro e w1 hS
        obtain ⟨u, rfl, hS1, hS2⟩ := hS.after HC1.out
        go_wp2_with fail
        go_end0
        exact ⟨_, rfl, hS1, hS2⟩
  · -- all operations are kept
    have hke : k = ps.length := by omega
    have hon : os[keep.toNat]? = none := List.getElem?_eq_none (by omega)
    have hce := crash_none (torn := torn) rfl hon
    have e2 : os.take keep.toNat = os.take k := by rw [List.take_of_length_le (by omega), List.take_of_length_le (by omega)]
    rw [e2] at hce
    have hDR : DiskRd B Z (w.setCell ⟨D, 1, none⟩ (.slice A k c)) D fm (crashOps os keep torn) := by
      rw [hce]
      exact disk_set hB hb hBD hBM hM (by rw [List.length_take]; omega) hG hPk (by rw [← hce]; exact hcr.1)
    generalize crashOps os keep torn = co at *
    have HC1 := Lib.hid hC1
    have hr0 : ¬ (0 : Int) < ((ps.length - k : Nat) : Int) := by omega
    have hr1 : ¬ (0 : Nat) < ps.length - k := by omega
    have hr2 : ps.length - k = 0 := by omega
    have CS := Lib.hid (dsync_any B Z D fm co (w.setCell ⟨D, 1, none⟩ (.slice A k c)) (by simpa [World.setCell] using hB) hDR hZ)
    clear hce e2 hon hke hb hps hl hk hi hz0 hz1 hz2 hpre etk eot hltk hPk hC1 h3
    unfold maxLen at h2
    go_enter Try.func18, Try.ntmps18
    go_wp2_with fail
    (with_reducible refine CS.out.mono ?_)
    rintro e w1 hS
    have hS := hS.after HC1.out
    obtain ⟨u, rfl, hS1, hS2⟩ := hS
    go_wp2_with fail
    go_end0
    exact ⟨_, rfl, hS1, hS2⟩
end Go.Proofs.Ytooojgokkigncaa
