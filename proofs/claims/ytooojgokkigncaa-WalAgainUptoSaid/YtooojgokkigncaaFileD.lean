/-
  Disks: Load.
-/
import Derived.Test.YtooojgokkigncaaFileC
namespace Go.Proofs.Ytooojgokkigncaa
open Go.RowKit Go.Lib Go.IntWalk

/-- the files of a disk that is loaded; none if it cannot be -/
def loadF : FL → FM → Option FM
  | [], fm => some fm
  | (k, l) :: r, fm => if (fm k).isSome || !wordF k then none else loadF r (updG fm k (some l))
theorem loadF_no {fl : FL} {k : Nat} {q : List UInt8 × List UInt8} (h : fl[k]? = some q) {fm : FM} (h2 : (fm q.1).isSome = true ∨ wordF q.1 = false) : loadF (fl.drop k) fm = none := by
  obtain ⟨hk, e⟩ := List.getElem?_eq_some_iff.1 h
  rw [List.drop_eq_getElem_cons hk, e]
  unfold loadF
  rw [if_pos (by rcases h2 with h | h <;> simp [h])]
theorem loadF_go {fl : FL} {k : Nat} {q : List UInt8 × List UInt8} (h : fl[k]? = some q) {fm : FM} (h2 : (fm q.1).isSome = false) (h3 : wordF q.1 = true) : loadF (fl.drop k) fm = loadF (fl.drop (k + 1)) (updG fm q.1 (some q.2)) := by
  obtain ⟨hk, e⟩ := List.getElem?_eq_some_iff.1 h
  rw [List.drop_eq_getElem_cons hk, e]
  conv => lhs; unfold loadF
  rw [if_neg (by simp [h2, h3])]
/-- the parts of a disk that is being loaded -/
def LoadAt (B : Nat) (w : World) (D M n : Nat) (fm : FM) : Prop :=
  ∃ g, w.heap[D]? = some (.cells #[.map (some M), .slice none 0 0] 80 (0, 0)) ∧ MapIs w M n g ∧ GRd B w g fm
def flsum (fl : FL) : Nat := (fl.map fun p => p.2.length).sum
theorem flsum_mem {fl : FL} {p : List UInt8 × List UInt8} (h : p ∈ fl) : p.2.length ≤ flsum fl := by
  induction fl with
  | nil => cases h
  | cons x r ih =>
    simp only [flsum, List.map_cons, List.sum_cons] at *
    rcases List.mem_cons.1 h with rfl | h
    · omega
    · have := ih h; omega
theorem LoadAt.disk {B Z : Nat} {w : World} {D M n : Nat} {fm : FM} (h : LoadAt B w D M n fm) (hD : B ≤ D) (hM : B ≤ M) (hn : n ≤ Z) (hz : ∀ key l, fm key = some l → l.length ≤ Z) : DiskAt B Z w D none fm [] := by
  obtain ⟨g, h1, h2, h3⟩ := h
  exact ⟨M, n, g, .slice none 0 0, h1, hD, hM, h2, by simpa using hn, h3, ⟨[], rfl, World.ownsRow_nil w _ _ _, fun p hp => by cases hp⟩, ⟨fun key l hl => by have := hz key l hl; simpa [dsum] using this, by simp [dsum], fun o ho => by cases ho⟩, rfl⟩
def LoadRel (B : Nat) (fl : FL) (D M : Nat) (res : Option FM) (w0 : World) (i : Value) (w : World) : Prop :=
  ∃ (k : Nat) (fm : FM), k ≤ fl.length ∧ i = .int .i64 (k : Int) ∧ loadF (fl.drop k) fm = res ∧ LoadAt B w D M k fm ∧ (∀ key l, fm key = some l → l.length ≤ flsum fl) ∧ Below w0.heap.size w0 w
def LoadOut (B Z : Nat) (res : Option FM) (w0 : World) (e : Ending) (w : World) : Prop :=
  Below w0.heap.size w0 w ∧ match res with
  | none => e = .returned (.pointer none)
  | some fm => ∃ D, e = .returned (.pointer (some ⟨D, 0, none⟩)) ∧ w0.heap.size ≤ D ∧ DiskAt B Z w D none fm []

set_option maxRecDepth 100000 in
set_option maxHeartbeats 4000000 in
theorem dload_any (B : Nat) (v : Value) (fl : FL) (w : World) (hB : B ≤ w.heap.size) (hv : FlsRd B w v fl) (hl1 : flsum fl ≤ 1099511627776) (hl2 : fl.length ≤ 1099511627776) (hnl : ∀ p ∈ fl, p.1.length ≤ maxLen) :
    Calls Try.prog 30 #[v] w (LoadOut B (flsum fl + fl.length) (loadF fl fun _ => none) w) := by
  obtain ⟨A, c, rfl, a1, a2, a3⟩ := hv.open_
  unfold maxLen at a2
  clear a3
  have HNL := Lib.hid hnl
  clear hnl
  generalize hres : loadF fl (fun _ => none) = res
  have HR := Lib.hid hres
  clear hres
  go_enter Try.func30, Try.ntmps30
  go_wp2_with fail
  (with_reducible refine (dnew_any w.heap.size w (Nat.le_refl _)).mono ?_)
  rintro e w1 ⟨D, rfl, hDl, hD1, hb1⟩
  obtain ⟨M, n, g, pv, hb, hBD, hBM, hM, hn, hG, ⟨ps, hps, hown, _⟩, hZs, hpv⟩ := hD1
  have hps0 : ps = [] := by simpa using hps
  subst hps0
  have hpn : pv = .slice none 0 0 := by
    rcases hown.2 with ⟨rfl, _⟩ | ⟨g, cap, cur, rfl, _⟩
    · rfl
    · cases hpv
  subst hpn
  have hn0 : n = 0 := by simpa using hn
  subst hn0
  have hL1 : LoadAt B w1 D M 0 (fun _ => none) := ⟨g, hb, hM, fun key => by rcases hG key with h | ⟨v, l, h1, h2, h3⟩; exact .inl h; cases h2⟩
  clear hb hM hG hown hps hpv hZs hn
  go_wp2_with fail
  go_loopw [11] (fun i wr => LoadRel B fl D M res w i wr) (fun i _ => fl.length - (intOf i).toNat)
  case atStart => exact ⟨0, _, Nat.zero_le _, rfl, HR.out, hL1, fun key l h => by (cases h), hb1⟩
  case round =>
    obtain ⟨k, fm, hk, rfl, hres, hLr, hfz, hbw⟩ := hrel
    clear HR
    have HRES := Lib.hid hres
    have HFZ := Lib.hid hfz
    clear hres hfz
    have hBr : B ≤ wr.heap.size := by have := hbw.size; omega
    by_cases hlt : k < fl.length
    · obtain ⟨ba, oa, ua, rfl, ga, ga1, da, _⟩ := FlsRd.elem (hv.below hB hbw) (List.getElem?_eq_getElem hlt)
      obtain ⟨Xa, xa, rfl, _, _, _⟩ := Rd.open_ da
      have hqm : fl[k] ∈ fl := List.getElem_mem hlt
      have hnm := HNL.out _ hqm
      have hdl : fl[k].2.length ≤ 1099511627776 := by have := flsum_mem hqm; omega
      have hdf := flsum_mem hqm
      have HNO := Lib.hid (@loadF_no fl k fl[k] (List.getElem?_eq_getElem hlt) fm)
      have HGO := Lib.hid (@loadF_go fl k fl[k] (List.getElem?_eq_getElem hlt) fm)
      generalize fl[k].1 = nm at *
      generalize fl[k].2 = data at *
      obtain ⟨g2, hbD, hMr, hGr⟩ := hLr
      have HSO := Lib.hid (hGr.some_eq nm)
      have hDM : ¬ D = M := by
        rintro rfl
        obtain ⟨es, clock, hm⟩ := hMr.obj
        rw [hbD] at hm; cases hm
      have hMlt := hMr.lt
      have hDlt : D < wr.heap.size := (Array.getElem?_eq_some_iff.1 hbD).1
      have hFM : ¬ wr.heap.size = M := by omega
      have hbF : Below wr.heap.size wr (wr.alloc (.cells #[.string (strB nm), .slice Xa data.length xa] 97)) := Below.of_alloc _
      have kF := box_cell wr #[.string (strB nm), .slice Xa data.length xa] 97 0 rfl
      have kG := box_cell wr #[.string (strB nm), .slice Xa data.length xa] 97 1 rfl
      have kD : (wr.alloc (.cells #[.string (strB nm), .slice Xa data.length xa] 97)).cell? ⟨D, 0, none⟩ = some (.map (some M)) := (World.cell?_of_block (hbF.block D hDlt)).trans (cell_of_row wr D 0 _ _ _ hbD)
      have hlk := (hMr.alloc (.cells #[.string (strB nm), .slice Xa data.length xa] 97)).look_ok nm hnm
      have hlk2 : (Instr.lookup 77 (.map (some M)) (.string (strB nm)) true).run Try.prog (wr.alloc (.cells #[.string (strB nm), .slice Xa data.length xa] 97)).drew = .ok (.tuple #[(g2 nm).getD (.slice none 0 0), .bool (g2 nm).isSome]) (wr.alloc (.cells #[.string (strB nm), .slice Xa data.length xa] 97)).drew :=
        (MapIs.block (w' := (wr.alloc (.cells #[.string (strB nm), .slice Xa data.length xa] 97)).drew) (hMr.alloc (.cells #[.string (strB nm), .slice Xa data.length xa] 97)) rfl).look_ok nm hnm
      clear hlk
      have hbwF : Below w.heap.size w (wr.alloc (.cells #[.string (strB nm), .slice Xa data.length xa] 97)).drew := (hbw.alloc hbw.size _).drew
      go_wp2_with fail
      refine wp_region_noPanic ?_
      refine wp_region_held_drew (S := (fun w' => w' = (wr.alloc (.cells #[.string (strB nm), .slice Xa data.length xa] 97)).drew)) (by kernel_rfl) ?_ (fun hHeld => ?_)
      · rfl
      refine heldTake 0 (some 16) (v := ?_) rfl rfl (by kernel_rfl) (by kernel_rfl) (by kernel_rfl) (by rfl) hHeld (fun _ _ _ h => h) ?_ ?_
      rotate_left
      · intro w' hSw; (try dsimp only at hSw); subst hSw; go_simp <;> with_reducible rfl
      simp only [Act.put, List.setIfInBounds_toArray, List.set_cons_zero, List.set_cons_succ]
      refine heldTake 1 (some 17) (v := ?_) rfl rfl (by kernel_rfl) (by kernel_rfl) (by kernel_rfl) (by rfl) hHeld (fun _ _ _ h => h) ?_ ?_
      rotate_left
      · intro w' hSw; (try dsimp only at hSw); subst hSw; go_simp <;> with_reducible rfl
      simp only [Act.put, List.setIfInBounds_toArray, List.set_cons_zero, List.set_cons_succ]
      refine heldTake 2 (some 18) (v := ?_) rfl rfl (by kernel_rfl) (by kernel_rfl) (by kernel_rfl) (by rfl) hHeld (fun _ _ _ h => h) ?_ ?_
      rotate_left
      · intro w' hSw; (try dsimp only at hSw); subst hSw; go_simp <;> with_reducible rfl
      simp only [Act.put, List.setIfInBounds_toArray, List.set_cons_zero, List.set_cons_succ]
      refine heldTake 3 (some 19) (v := ?_) rfl rfl (by kernel_rfl) (by kernel_rfl) (by kernel_rfl) (by rfl) hHeld (fun _ _ _ h => h) ?_ ?_
      rotate_left
      · intro w' hSw; (try dsimp only at hSw); subst hSw; go_simp <;> with_reducible rfl
      simp only [Act.put, List.setIfInBounds_toArray, List.set_cons_zero, List.set_cons_succ]
      refine heldTake 4 (some 20) (v := ?_) rfl rfl (by kernel_rfl) (by kernel_rfl) (by kernel_rfl) (by rfl) hHeld (fun _ _ _ h => h) ?_ ?_
      rotate_left
      · intro w' hSw; (try dsimp only at hSw); subst hSw; go_simp <;> with_reducible rfl
      simp only [Act.put, List.setIfInBounds_toArray, List.set_cons_zero, List.set_cons_succ]
      refine heldTake 5 (some 21) (v := ?_) rfl rfl (by kernel_rfl) (by kernel_rfl) (by kernel_rfl) (by rfl) hHeld (fun _ _ _ h => h) ?_ ?_
      rotate_left
      · intro w' hSw; (try dsimp only at hSw); subst hSw; go_simp <;> with_reducible rfl
      simp only [Act.put, List.setIfInBounds_toArray, List.set_cons_zero, List.set_cons_succ]
      refine heldTake 6 (some 22) (v := ?_) rfl rfl (by kernel_rfl) (by kernel_rfl) (by kernel_rfl) (by rfl) hHeld (fun _ _ _ h => h) ?_ ?_
      rotate_left
      · intro w' hSw; (try dsimp only at hSw); subst hSw; go_simp <;> with_reducible rfl
      simp only [Act.put, List.setIfInBounds_toArray, List.set_cons_zero, List.set_cons_succ]
      refine heldTake 7 (some 15) (v := ?_) rfl rfl (by kernel_rfl) (by kernel_rfl) (by kernel_rfl) (by rfl) hHeld (fun _ _ _ h => h) ?_ ?_
      rotate_left
      · intro w' hSw; (try dsimp only at hSw); subst hSw; go_simp <;> with_reducible rfl
      simp only [Act.put, List.setIfInBounds_toArray, List.set_cons_zero, List.set_cons_succ]
      refine heldTake 8 (some 23) (v := ?_) rfl rfl (by kernel_rfl) (by kernel_rfl) (by kernel_rfl) (by rfl) hHeld (fun _ _ _ h => h) ?_ ?_
      rotate_left
      · intro w' hSw; (try dsimp only at hSw); subst hSw; go_simp <;> with_reducible rfl
      simp only [Act.put, List.setIfInBounds_toArray, List.set_cons_zero, List.set_cons_succ]
      refine heldTake 9 (some 24) (v := ?_) rfl rfl (by kernel_rfl) (by kernel_rfl) (by kernel_rfl) (by rfl) hHeld (fun _ _ _ h => h) ?_ ?_
      rotate_left
      · intro w' hSw; (try dsimp only at hSw); subst hSw; go_simp <;> with_reducible rfl
      simp only [Act.put, List.setIfInBounds_toArray, List.set_cons_zero, List.set_cons_succ]
      refine heldTake 10 (some 6) (v := ?_) rfl rfl (by kernel_rfl) (by kernel_rfl) (by kernel_rfl) (by rfl) hHeld (fun _ _ _ h => h) ?_ ?_
      rotate_left
      · intro w' hSw; (try dsimp only at hSw); subst hSw; go_simp <;> with_reducible rfl
      simp only [Act.put, List.setIfInBounds_toArray, List.set_cons_zero, List.set_cons_succ]
      refine heldTake 11 (some 7) (v := ?_) rfl rfl (by kernel_rfl) (by kernel_rfl) (by kernel_rfl) (by rfl) hHeld (fun _ _ _ h => h) ?_ ?_
      rotate_left
      · intro w' hSw; (try dsimp only at hSw); subst hSw; go_simp <;> with_reducible rfl
      simp only [Act.put, List.setIfInBounds_toArray, List.set_cons_zero, List.set_cons_succ]
      refine wpAnyH_done (by kernel_rfl) ?_ _
      refine NoPanic.normal ?_
      have hM3' : MapIs (wr.alloc (.cells #[.string (strB nm), .slice Xa data.length xa] 97)).drew M k g2 := hMr.alloc _
      have hG3' : GRd B (wr.alloc (.cells #[.string (strB nm), .slice Xa data.length xa] 97)).drew g2 fm := hGr.alloc hBr _
      have hd3' : DatB B (wr.alloc (.cells #[.string (strB nm), .slice Xa data.length xa] 97)).drew (.slice Xa data.length xa) data := da.alloc hBr _
      have hbD3' : (wr.alloc (.cells #[.string (strB nm), .slice Xa data.length xa] 97)).drew.heap[D]? = some (.cells #[.map (some M), .slice none 0 0] 80 (0, 0)) := (hbF.block D hDlt).trans hbD
      have hFs : wr.heap.size < (wr.alloc (.cells #[.string (strB nm), .slice Xa data.length xa] 97)).drew.heap.size := by simp
      have kF' : (wr.alloc (.cells #[.string (strB nm), .slice Xa data.length xa] 97)).drew.cell? ⟨wr.heap.size, 0, none⟩ = some (.string (strB nm)) := kF
      have kG' : (wr.alloc (.cells #[.string (strB nm), .slice Xa data.length xa] 97)).drew.cell? ⟨wr.heap.size, 1, none⟩ = some (.slice Xa data.length xa) := kG
      have kD' : (wr.alloc (.cells #[.string (strB nm), .slice Xa data.length xa] 97)).drew.cell? ⟨D, 0, none⟩ = some (.map (some M)) := kD
      have hBF : B ≤ (wr.alloc (.cells #[.string (strB nm), .slice Xa data.length xa] 97)).drew.heap.size := by simp; omega
      clear hlk2 hMr hGr da hbD kF kG kD hbF hHeld
      generalize (wr.alloc (.cells #[.string (strB nm), .slice Xa data.length xa] 97)).drew = W at *
      cases hgs : (g2 nm).isSome with
      | true =>
        have hn2 := HNO.out (.inl (by rw [← HSO.out, hgs]))
        have HN2 := Lib.hid hn2
        clear hn2 HNO HGO HSO
        generalize (g2 nm).getD (.slice none 0 0) = gv at *
        go_wp2_with fail
        go_ret
        refine ⟨hbwF, ?_⟩
        rw [← HRES.out, HN2.out]
        exact rfl
      | false =>
        have hfs : (fm nm).isSome = false := by rw [← HSO.out, hgs]
        have HFS := Lib.hid hfs
        clear hfs HSO
        have CW := Lib.hid (dword_any nm W)
        generalize (g2 nm).getD (.slice none 0 0) = gv at *
        generalize hwd : wordF nm = wd at *
        have HWD := Lib.hid hwd
        clear hwd
        go_wp2_with fail
        (with_reducible refine CW.out.mono ?_)
        rintro e w3 ⟨rfl, hb3⟩
        clear CW
        cases wd with
        | false =>
          have hn2 := HNO.out (.inr rfl)
          have HN2 := Lib.hid hn2
          clear hn2 HNO HGO
          go_wp2_with fail
          go_ret
          refine ⟨hbwF.trans (hb3.mono hbwF.size), ?_⟩
          rw [← HRES.out, HN2.out]
          exact rfl
        | true =>
        have hg2 := HGO.out HFS.out rfl
        have HG2 := Lib.hid hg2
        clear hg2 HNO HGO
        have hM3 : MapIs w3 M k g2 := hM3'.block (hb3.block M hM3'.lt)
        have hG3 : GRd B w3 g2 fm := hG3'.below hBF hb3
        have hd3 : DatB B w3 (.slice Xa data.length xa) data := hd3'.below hBF hb3
        have hDlW : D < W.heap.size := (Array.getElem?_eq_some_iff.1 hbD3').1
        have hbD3 := (hb3.block D hDlW).trans hbD3'
        have hk3 : ∀ b o, b < W.heap.size → w3.cell? ⟨b, o, none⟩ = W.cell? ⟨b, o, none⟩ := fun b o hb => World.cell?_of_block (hb3.block b hb)
        have kD := (hk3 D 0 hDlW).trans kD'
        have kF := (hk3 wr.heap.size 0 hFs).trans kF'
        have kG := (hk3 wr.heap.size 1 hFs).trans kG'
        have hs3 := hb3.size
        have hDl3 : D < w3.heap.size := by omega
        have hFl3 : wr.heap.size < w3.heap.size := by omega
        have hB3 : B ≤ w3.heap.size := by omega
        have hbw3 : Below w.heap.size w w3 := hbwF.trans (hb3.mono hbwF.size)
        clear hM3' hG3' hd3' hbD3' kD' kF' kG' hk3 hb3 hbwF
        go_wp2_with fail
        refine wp_region_noPanic ?_
        refine wp_region_held_drew (S := (fun w' => w'.cell? ⟨D, 0, none⟩ = some (.map (some M)) ∧ w'.cell? ⟨wr.heap.size, 0, none⟩ = some (.string (strB nm)) ∧ w'.cell? ⟨wr.heap.size, 1, none⟩ = some (.slice Xa data.length xa))) (by kernel_rfl) ?_ (fun hHeld => ?_)
        · exact ⟨kD, kF, kG⟩
        refine heldTake 0 (some 32) (v := ?_) rfl rfl (by kernel_rfl) (by kernel_rfl) (by kernel_rfl) (by rfl) hHeld (fun _ _ _ h => h) ?_ ?_
        rotate_left
        · intro w' hSw; (try dsimp only at hSw); obtain ⟨hs0, hs1, hs2⟩ := hSw; go_simp <;> with_reducible rfl
        simp only [Act.put, List.setIfInBounds_toArray, List.set_cons_zero, List.set_cons_succ]
        refine heldTake 1 (some 33) (v := ?_) rfl rfl (by kernel_rfl) (by kernel_rfl) (by kernel_rfl) (by rfl) hHeld (fun _ _ _ h => h) ?_ ?_
        rotate_left
        · intro w' hSw; (try dsimp only at hSw); obtain ⟨hs0, hs1, hs2⟩ := hSw; go_simp <;> with_reducible rfl
        simp only [Act.put, List.setIfInBounds_toArray, List.set_cons_zero, List.set_cons_succ]
        refine heldTake 2 (some 34) (v := ?_) rfl rfl (by kernel_rfl) (by kernel_rfl) (by kernel_rfl) (by rfl) hHeld (fun _ _ _ h => h) ?_ ?_
        rotate_left
        · intro w' hSw; (try dsimp only at hSw); obtain ⟨hs0, hs1, hs2⟩ := hSw; go_simp <;> with_reducible rfl
        simp only [Act.put, List.setIfInBounds_toArray, List.set_cons_zero, List.set_cons_succ]
        refine heldTake 3 (some 35) (v := ?_) rfl rfl (by kernel_rfl) (by kernel_rfl) (by kernel_rfl) (by rfl) hHeld (fun _ _ _ h => h) ?_ ?_
        rotate_left
        · intro w' hSw; (try dsimp only at hSw); obtain ⟨hs0, hs1, hs2⟩ := hSw; go_simp <;> with_reducible rfl
        simp only [Act.put, List.setIfInBounds_toArray, List.set_cons_zero, List.set_cons_succ]
        refine heldTake 4 (some 36) (v := ?_) rfl rfl (by kernel_rfl) (by kernel_rfl) (by kernel_rfl) (by rfl) hHeld (fun _ _ _ h => h) ?_ ?_
        rotate_left
        · intro w' hSw; (try dsimp only at hSw); obtain ⟨hs0, hs1, hs2⟩ := hSw; go_simp <;> with_reducible rfl
        simp only [Act.put, List.setIfInBounds_toArray, List.set_cons_zero, List.set_cons_succ]
        refine heldTake 5 (some 37) (v := ?_) rfl rfl (by kernel_rfl) (by kernel_rfl) (by kernel_rfl) (by rfl) hHeld (fun _ _ _ h => h) ?_ ?_
        rotate_left
        · intro w' hSw; (try dsimp only at hSw); obtain ⟨hs0, hs1, hs2⟩ := hSw; go_simp <;> with_reducible rfl
        simp only [Act.put, List.setIfInBounds_toArray, List.set_cons_zero, List.set_cons_succ]
        refine heldTake 6 (some 38) (v := ?_) rfl rfl (by kernel_rfl) (by kernel_rfl) (by kernel_rfl) (by rfl) hHeld (fun _ _ _ h => h) ?_ ?_
        rotate_left
        · intro w' hSw; (try dsimp only at hSw); obtain ⟨hs0, hs1, hs2⟩ := hSw; go_simp <;> with_reducible rfl
        simp only [Act.put, List.setIfInBounds_toArray, List.set_cons_zero, List.set_cons_succ]
        refine heldTake 7 (some 39) (v := ?_) rfl rfl (by kernel_rfl) (by kernel_rfl) (by kernel_rfl) (by rfl) hHeld (fun _ _ _ h => h) ?_ ?_
        rotate_left
        · intro w' hSw; (try dsimp only at hSw); obtain ⟨hs0, hs1, hs2⟩ := hSw; go_simp <;> with_reducible rfl
        simp only [Act.put, List.setIfInBounds_toArray, List.set_cons_zero, List.set_cons_succ]
        refine heldCall 8 (some 40) (f := ?_) (args := ?_) rfl rfl (by kernel_rfl) (by rfl) ?_ ?_
        rotate_left 2
        · go_simp <;> first | (constructor <;> with_reducible rfl) | with_reducible rfl
        (with_reducible refine (clone_any _ data w3.drew (DatB.rd (w := w3.drew) hd3 hB3) hdl).mono ?_)
        rintro e w4 ⟨v4, rfl, hO4, hb4⟩
        have hk4 : ∀ b o, b < w3.heap.size → w4.cell? ⟨b, o, none⟩ = w3.cell? ⟨b, o, none⟩ := fun b o hb => World.cell?_of_block (hb4.block b hb)
        refine ⟨_, rfl, keepAnd ?_ (fun hNew => ?_)⟩
        · exact ⟨(hk4 D 0 hDl3).trans kD, (hk4 _ 0 hFl3).trans kF, (hk4 _ 1 hFl3).trans kG⟩
        clear hHeld
        have hHeld := hNew
        clear hNew
        simp only [Act.put, List.setIfInBounds_toArray, List.set_cons_zero, List.set_cons_succ]
        refine heldOp 9 rfl (by kernel_rfl) (by rfl) ?_
        have hM4 : MapIs w4 M k g2 := hM3.block (hb4.block M hM3.lt)
        refine wp_mput (.tmp 35) (.tmp 37) (.tmp 40) rfl M k g2 rfl hM4 (by unfold maxLen; omega) nm hnm rfl _ rfl ?_
        intro w5 hM5 hc5
        refine keepAnd ?_ (fun hNew => ?_)
        · exact ⟨(World.cell?_of_block (hc5.block D (by have := hb4.size; simp at this; omega) hDM)).trans ((hk4 D 0 hDl3).trans kD), (World.cell?_of_block (hc5.block wr.heap.size (by have := hb4.size; simp at this; omega) hFM)).trans ((hk4 _ 0 hFl3).trans kF), (World.cell?_of_block (hc5.block wr.heap.size (by have := hb4.size; simp at this; omega) hFM)).trans ((hk4 _ 1 hFl3).trans kG)⟩
        clear hHeld
        have hHeld := hNew
        clear hNew
        simp only [Act.put]
        refine wpAnyH_done (by kernel_rfl) ?_ _
        refine NoPanic.normal ?_
        have hc45 := hc5
        have hB4 : B ≤ w4.heap.size := by have := hb4.size; simp at this; omega
        have hG4 : GRd B w4 g2 fm := (GRd.below (w := w3.drew) hG3 hB3 hb4)
        have hG5 : GRd B w5 (updG g2 nm (some v4)) (updG fm nm (some data)) := (hG4.put nm (DatB.of_own hO4)).map hB4 (by omega) hM4.obj hc5
        have hbD5 : w5.heap[D]? = some (.cells #[.map (some M), .slice none 0 0] 80 (0, 0)) := ((hc5.block D (by have := hb4.size; simp at this; omega) hDM).trans (hb4.block D hDl3)).trans hbD3
        have hbw5 : Below w.heap.size w w5 := (hbw3.trans ((Below.undrew hb4).mono hbw3.size)).trans (hc5.below (by have := hbw3.size; have := hb4.size; simp at this; omega) (fun i hi => by omega))
        clear hHeld hM4 hc5 hG4
        go_wp2_with fail
        go_roundw
        case rel =>
          refine ⟨k + 1, _, by omega, by go_num, by rw [← HRES.out, HG2.out], ⟨_, hbD5, hM5, hG5⟩, fun key l hkl => ?_, hbw5⟩
          unfold updG at hkl
          split at hkl
          · cases hkl; exact hdf
          · exact HFZ.out key l hkl
        case measure => simp [intOf]; omega
    · have hke : k = fl.length := by omega
      subst hke
      rw [List.drop_length] at HRES
      go_wp2_with fail
      go_ret
      refine ⟨hbw, ?_⟩
      rw [← HRES.out]
      exact ⟨D, rfl, hDl, hLr.disk (by omega) (by omega) (by omega) (fun key l hkl => by have := HFZ.out key l hkl; omega)⟩
end Go.Proofs.Ytooojgokkigncaa
