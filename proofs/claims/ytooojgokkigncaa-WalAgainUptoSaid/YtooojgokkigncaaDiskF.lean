/-
  Disks: what a disk holds; its view.
-/
import Derived.Test.YtooojgokkigncaaDiskE
namespace Go.Proofs.Ytooojgokkigncaa
open Go.RowKit Go.Lib Go.IntWalk

theorem flat_get {α β : Type} (n : Nat) (f : α → List β) (hf : ∀ x, (f x).length = n) (ps : List α) (k j : Nat) (hj : j < n) (x : α) (hx : ps[k]? = some x) : (ps.flatMap f)[k * n + j]? = (f x)[j]? := by
  induction ps generalizing k with
  | nil => simp at hx
  | cons p ps ih =>
    cases k with
    | zero =>
      simp only [List.getElem?_cons_zero, Option.some.injEq] at hx
      subst hx
      rw [List.flatMap_cons, Nat.zero_mul, Nat.zero_add, List.getElem?_append_left (by rw [hf]; exact hj)]
    | succ k =>
      simp only [List.getElem?_cons_succ] at hx
      rw [List.flatMap_cons, List.getElem?_append_right (by rw [hf, Nat.succ_mul]; omega), hf, show (k + 1) * n + j - n = k * n + j by rw [Nat.succ_mul]; omega]
      exact ih k hx
theorem flat_len {α β : Type} (n : Nat) (f : α → List β) (hf : ∀ x, (f x).length = n) (ps : List α) : (ps.flatMap f).length = ps.length * n := by
  induction ps with
  | nil => simp
  | cons p ps ih => rw [List.flatMap_cons, List.length_append, hf, ih, List.length_cons, Nat.succ_mul]; omega

/-- an operation's cells -/
def opC (p : DOp × Value) : List Value := [.int .i64 (p.1.kind : Int), .string (strB p.1.name), .string (strB p.1.to), p.2]
theorem opC_len (p : DOp × Value) : (opC p).length = 4 := rfl
def opCs (ps : List (DOp × Value)) : List Value := ps.flatMap opC
theorem opCs_len (ps : List (DOp × Value)) : (opCs ps).length = ps.length * 4 := flat_len 4 opC opC_len ps
theorem opCs_get (ps : List (DOp × Value)) (k j : Nat) (hj : j < 4) (x : DOp × Value) (hx : ps[k]? = some x) : (opCs ps)[k * 4 + j]? = (opC x)[j]? := flat_get 4 opC opC_len ps k j hj x hx
theorem opCs_one (ps : List (DOp × Value)) (h : ∀ p ∈ ps, p.2.oneCell' = true) : ∀ u ∈ opCs ps, u.oneCell' = true := by
  intro u hu
  simp only [opCs, List.mem_flatMap, opC] at hu
  obtain ⟨p, hp, hu⟩ := hu
  simp only [List.mem_cons, List.not_mem_nil, or_false] at hu
  rcases hu with rfl | rfl | rfl | rfl
  · rfl
  · rfl
  · rfl
  · exact h p hp

/-- a row of operations -/
def OR (w : World) (b : Nat) : Prop := ∃ cs, w.heap[b]? = some (.cells cs 92 (0, 0))
/-- each operation's bytes -/
def OpsD (B : Nat) (w : World) (ps : List (DOp × Value)) : Prop := ∀ p ∈ ps, DatB B w p.2 p.1.data
/-- buffered operations, to be read -/
def PRd (B : Nat) (w : World) (v : Value) (os : List DOp) : Prop := ∃ ps : List (DOp × Value), ps.map (·.1) = os ∧ Rd w (OR w) 4 v ps.length (opCs ps) ∧ OpsD B w ps
/-- buffered operations, a row of the call's own -/
def POwn (B : Nat) (w : World) (v : Value) (os : List DOp) : Prop := ∃ ps : List (DOp × Value), ps.map (·.1) = os ∧ w.ownsRow B 92 4 v ps.length (opCs ps) ∧ OpsD B w ps

def dsum (os : List DOp) : Nat := (os.map (·.data.length)).sum
/-- sizes: within the budget Z -/
structure DSz (Z : Nat) (fm : FM) (os : List DOp) : Prop where
  file : ∀ key l, fm key = some l → l.length + dsum os ≤ Z
  all : dsum os ≤ Z
  op : ∀ o ∈ os, o.kind ≤ 2 ∧ o.name.length ≤ maxLen ∧ o.to.length ≤ maxLen
theorem DSz.get {Z : Nat} {fm : FM} {os : List DOp} (h : DSz Z fm os) (key : List UInt8) : ((fm key).getD []).length + dsum os ≤ Z := by
  cases hk : fm key with
  | none => simpa using h.all
  | some l => exact h.file key l hk
theorem DSz.step {Z : Nat} {fm : FM} {o : DOp} {os : List DOp} (h : DSz Z fm (o :: os)) : DSz Z (applyF fm o) os := by
  have hs : dsum (o :: os) = o.data.length + dsum os := by simp [dsum]
  have ha := h.all
  refine ⟨fun key l hl => ?_, by omega, fun x hx => h.op x (List.mem_cons_of_mem _ hx)⟩
  have hf : ∀ key l, fm key = some l → l.length + dsum os ≤ Z := fun key l hl => by have := h.file key l hl; omega
  unfold applyF at hl
  split at hl
  · unfold updG at hl
    split at hl
    · injection hl with hl
      subst hl
      have := h.get o.name
      rw [List.length_append]
      omega
    · exact hf key l hl
  · split at hl
    · unfold updG at hl
      split at hl
      · cases hl
      · exact hf key l hl
    · split at hl
      · unfold updG at hl
        split at hl
        · injection hl with hl
          subst hl
          have := h.get o.name
          omega
        · split at hl
          · cases hl
          · exact hf key l hl
      · exact hf key l hl
theorem DSz.take {Z : Nat} {fm : FM} {os : List DOp} (h : DSz Z fm os) (k : Nat) : DSz Z (viewF fm (os.take k)) (os.drop k) := by
  induction os generalizing fm k with
  | nil => simpa [viewF] using h
  | cons o os ih =>
    cases k with
    | zero => simpa [viewF] using h
    | succ k => simpa [viewF] using ih h.step k
theorem DSz.view {Z : Nat} {fm : FM} {os : List DOp} (h : DSz Z fm os) : DSz Z (viewF fm os) [] := by
  have := h.take os.length
  simpa using this
theorem viewF_succ {fm : FM} {os : List DOp} {k : Nat} {o : DOp} (h : os[k]? = some o) : viewF fm (os.take (k + 1)) = applyF (viewF fm (os.take k)) o := by
  obtain ⟨hk, e⟩ := List.getElem?_eq_some_iff.1 h
  rw [List.take_succ_eq_append_getElem hk, viewF, List.foldl_append, e]
  rfl
theorem dsum_drop {os : List DOp} {k : Nat} {o : DOp} (h : os[k]? = some o) : dsum (os.drop k) = o.data.length + dsum (os.drop (k + 1)) := by
  obtain ⟨hk, e⟩ := List.getElem?_eq_some_iff.1 h
  rw [List.drop_eq_getElem_cons hk, e]
  simp [dsum]

/-- a disk: its files and buffered operations, readable -/
def DiskRd (B Z : Nat) (w : World) (D : Nat) (fm : FM) (os : List DOp) : Prop :=
  ∃ M n g pv, w.heap[D]? = some (.cells #[.map (some M), pv] 80 (0, 0)) ∧ B ≤ D ∧ B ≤ M ∧ MapIs w M n g ∧ n + os.length ≤ Z ∧ GRd B w g fm ∧ PRd B w pv os ∧ DSz Z fm os
/-- a disk whose operations lie in block P -/
def DiskAt (B Z : Nat) (w : World) (D : Nat) (P : Option Nat) (fm : FM) (os : List DOp) : Prop :=
  ∃ M n g pv, w.heap[D]? = some (.cells #[.map (some M), pv] 80 (0, 0)) ∧ B ≤ D ∧ B ≤ M ∧ MapIs w M n g ∧ n + os.length ≤ Z ∧ GRd B w g fm ∧ POwn B w pv os ∧ DSz Z fm os ∧ pv.ownBlock = P

theorem PRd.of_own {B : Nat} {w : World} {v : Value} {os : List DOp} (h : POwn B w v os) : PRd B w v os := by
  obtain ⟨ps, h1, h, h2⟩ := h
  refine ⟨ps, h1, ⟨h.1, ?_⟩, h2⟩
  rcases h.2 with ⟨rfl, h0⟩ | ⟨g, cap, cur, rfl, hb, hg, hnc, hcm, hcs, htake⟩
  · rw [h0]
    exact ⟨none, 0, rfl, Nat.le_refl _, Nat.zero_le _, fun _ => rfl, fun h => absurd h (by omega)⟩
  · exact ⟨_, cap, rfl, hnc, hcm, fun h => (Option.some_ne_none _ h).elim, fun _ => ⟨_, rfl, ⟨cur, hg⟩, World.ownsRow.cells (g := g) h rfl⟩⟩
theorem DiskAt.rd {B Z : Nat} {w : World} {D : Nat} {P : Option Nat} {fm : FM} {os : List DOp} (h : DiskAt B Z w D P fm os) : DiskRd B Z w D fm os := by
  obtain ⟨M, n, g, pv, h1, h2, h3, h4, h5, h6, h7, h8, _⟩ := h
  exact ⟨M, n, g, pv, h1, h2, h3, h4, h5, h6, PRd.of_own h7, h8⟩
theorem OpsD.chg {B : Nat} {w w' : World} {S : Nat → Prop} {ps : List (DOp × Value)} (h : OpsD B w ps) (hB : B ≤ w.heap.size) (hc : Chg S w w') (hs : ∀ b, BR B w b → ¬ S b) : OpsD B w' ps := fun p hp => (h p hp).chg hB hc hs
theorem PRd.below {B : Nat} {w w' : World} {v : Value} {os : List DOp} (h : PRd B w v os) (hB : B ≤ w.heap.size) (hb : Below w.heap.size w w') : PRd B w' v os := by
  obtain ⟨ps, h1, h2, h3⟩ := h
  have hk : ∀ b, OR w b → w'.heap[b]? = w.heap[b]? := fun b ⟨cs, hb'⟩ => hb.block b (Array.getElem?_eq_some_iff.1 hb').1
  exact ⟨ps, h1, (Rd.keep h2 hk).wide fun b hb' => by obtain ⟨cs, e⟩ := hb'; exact ⟨cs, (hk b ⟨cs, e⟩).trans e⟩, h3.chg hB (Chg.of_below hb (fun _ => False)) (fun _ _ h => h)⟩
/-- an element of the row -/
theorem PRd.elem {w : World} {F : Nat → Prop} {A : Option Addr} {c : Nat} {ps : List (DOp × Value)} (h : Rd w F 4 (.slice A ps.length c) ps.length (opCs ps)) {k : Nat} {p : DOp × Value} (hk : ps[k]? = some p) :
    ∃ b off, A = some ⟨b, off, none⟩ ∧ F b ∧ w.cell? ⟨b, off + k * 4, none⟩ = some (.int .i64 (p.1.kind : Int)) ∧ w.cell? ⟨b, off + k * 4 + 1, none⟩ = some (.string (strB p.1.name)) ∧ w.cell? ⟨b, off + k * 4 + 2, none⟩ = some (.string (strB p.1.to)) ∧ w.cell? ⟨b, off + k * 4 + 3, none⟩ = some p.2 := by
  obtain ⟨hlt, _⟩ := List.getElem?_eq_some_iff.1 hk
  obtain ⟨b, off, rfl, hF, hc⟩ := Rd.plain h (by omega) (by omega)
  refine ⟨b, off, rfl, hF, ?_, ?_, ?_, ?_⟩
  · exact hc (k * 4) _ (opCs_get ps k 0 (by omega) p hk)
  · have := hc (k * 4 + 1) _ (opCs_get ps k 1 (by omega) p hk); rwa [← Nat.add_assoc] at this
  · have := hc (k * 4 + 2) _ (opCs_get ps k 2 (by omega) p hk); rwa [← Nat.add_assoc] at this
  · have := hc (k * 4 + 3) _ (opCs_get ps k 3 (by omega) p hk); rwa [← Nat.add_assoc] at this

/-- a new map with these files -/
def ViewOut (B N : Nat) (fm : FM) (w0 : World) (e : Ending) (w : World) : Prop :=
  ∃ M n g, e = .returned (.map (some M)) ∧ w0.heap.size ≤ M ∧ MapIs w M n g ∧ n ≤ N ∧ GRd B w g fm ∧ Below w0.heap.size w0 w
def ViewRel (B n0 M : Nat) (fm : FM) (os : List DOp) (w0 : World) (i : Value) (w : World) : Prop :=
  ∃ k : Nat, k ≤ os.length ∧ i = .int .i64 (k : Int) ∧ ∃ g, MapIs w M (n0 + k) g ∧ GRd B w g (viewF fm (os.take k)) ∧ Below w0.heap.size w0 w

set_option maxRecDepth 100000 in
set_option maxHeartbeats 2000000 in
theorem view_any (B Z D : Nat) (fm : FM) (os : List DOp) (w : World) (hB : B ≤ w.heap.size) (hD : DiskRd B Z w D fm os) (hZ : Z ≤ 1099511627776) :
    Calls Try.prog 52 #[.pointer (some ⟨D, 0, none⟩)] w (ViewOut B Z (viewF fm os) w) := by
  obtain ⟨M, n, g, pv, hb, hBD, hBM, hM, hn, hG, ⟨ps, hps, hP, hO⟩, hZs⟩ := hD
  have hl : os.length = ps.length := by rw [← hps, List.length_map]
  have hc0 : w.cell? ⟨D, 0, none⟩ = some (.map (some M)) := cell_of_row w D 0 _ _ _ hb
  have hc1 : w.cell? ⟨D, 1, none⟩ = some pv := cell_of_row w D 1 _ _ _ hb
  have hDl : D < w.heap.size := (Array.getElem?_eq_some_iff.1 hb).1
  obtain ⟨A, c, rfl, h1, h2, h3⟩ := Rd.open_ hP
  have HB := Lib.hid hb
  have HPS := Lib.hid hps
  have HL := Lib.hid hl
  have H3 := Lib.hid h3
  clear hps hb h3 hl
  unfold maxLen at h2
  go_enter Try.func52, Try.ntmps52
  go_wp2_with fail
  (with_reducible refine (mclone_any hM).mono ?_)
  rintro e w1 ⟨rfl, hM1, hb1⟩
  have hc1' : w1.cell? ⟨D, 1, none⟩ = some (.slice A ps.length c) := (hb1.cell (p := ⟨D, 1, none⟩) hDl).trans hc1
  clear hc1 hc0
  go_wp2_with fail
  go_loopw [16] (fun i wr => ViewRel B n w.heap.size fm os w i wr) (fun i _ => ps.length - (intOf i).toNat)
  case atStart => exact ⟨0, Nat.zero_le _, rfl, g, hM1, by simpa [viewF] using hG.below hB hb1, hb1⟩
  case round =>
    obtain ⟨k, hk, rfl, gk, hMk, hGk, hbk⟩ := hrel
    have hl := HL.out
    by_cases hlt : k < ps.length
    · have hpk : ps[k]? = some ps[k] := List.getElem?_eq_getElem hlt
      have hok : os[k]? = some ps[k].1 := by rw [← HPS.out, List.getElem?_map, hpk]; rfl
      have hPk : Rd wr (fun b => b < w.heap.size) 4 (.slice A ps.length c) ps.length (opCs ps) := Rd.below (hP.wide fun b ⟨cs, e⟩ => (Array.getElem?_eq_some_iff.1 e).1) hbk
      obtain ⟨b, off, rfl, hF, g0, g1, g2, g3⟩ := PRd.elem hPk hpk
      have hdk : DatB B wr ps[k].2 ps[k].1.data := (hO _ (List.getElem_mem hlt)).below hB hbk
      have hmem : ps[k].1 ∈ os := List.mem_iff_getElem?.2 ⟨k, hok⟩
      have hop := hZs.op _ hmem
      have hsz := (hZs.take k).get ps[k].1.name
      rw [dsum_drop hok] at hsz
      have HV := Lib.hid (@viewF_succ fm os k _ hok)
      generalize ps[k] = p at *
      obtain ⟨o, dv⟩ := p
      simp only at *
      obtain ⟨Ad, cd, rfl, q1, q2, q3⟩ := Rd.open_ hdk
      have HO := Lib.hid hok
      have HP := Lib.hid hpk
      have HQ := Lib.hid q3
      clear q3
      have hBr : B ≤ wr.heap.size := by have := hbk.size; omega
      have hMl := hMk.lt
      have hdk1 := hdk.alloc hBr (.cells #[.int .i64 (o.kind : Int), .string (strB o.name), .string (strB o.to), .slice Ad o.data.length cd] 92)
      have hMk1 := hMk.alloc (.cells #[.int .i64 (o.kind : Int), .string (strB o.name), .string (strB o.to), .slice Ad o.data.length cd] 92)
      have hGk1 := hGk.alloc hBr (.cells #[.int .i64 (o.kind : Int), .string (strB o.name), .string (strB o.to), .slice Ad o.data.length cd] 92)
      clear hok hpk hl
      go_wp2_with fail
      (with_reducible refine (apply_any B w.heap.size (n + k) gk (viewF fm (os.take k)) o (.slice Ad o.data.length cd) _ ?_ ?_ ?_ ?_ ?_ ?_ ?_ ?_ ?_ ?_).mono ?_)
      · omega
      · exact hMk1
      · exact hGk1
      · simp; omega
      · exact hop.1
      · exact hop.2.1
      · exact hop.2.2
      · unfold maxLen; omega
      · exact hdk1
      · omega
      rintro e w2 ⟨u, g', rfl, hM2, hG2, hC2⟩
      go_wp2_with fail
      go_roundw
      case rel =>
        refine ⟨k + 1, by rw [HL.out]; omega, by go_num, g', hM2, by rw [HV.out]; exact hG2, ?_⟩
        exact ((hbk.alloc (by omega) _).trans (hC2.below (by simp; omega) (fun i hi => by omega)))
      case measure => simp [intOf]; omega
    · have hke : k = os.length := by omega
      have HK := Lib.hid hke
      clear hke hl
      go_wp2_with fail
      go_ret
      refine ⟨_, n + k, gk, rfl, Nat.le_refl _, hMk, by have := HK.out; omega, ?_, hbk⟩
      have := HK.out
      rwa [this, List.take_length] at hGk
end Go.Proofs.Ytooojgokkigncaa
