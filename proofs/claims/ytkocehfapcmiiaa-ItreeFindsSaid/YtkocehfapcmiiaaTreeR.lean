/-
  The law about single instants.
-/
import Derived.Test.YtkocehfapcmiiaaTreeQ
namespace Go.Proofs.Ytkocehfapcmiiaa
open Go.RowKit Go.Lib Go.IntWalk

theorem mem_ovl {p q : Int} {l : List It} {n : Int} : n ∈ Tr.ovl p q l ↔ ∃ i ∈ l, (i.fr < q ∧ p < i.to) ∧ i.id = n := by
  unfold Tr.ovl
  simp only [List.mem_map, List.mem_filter]
  constructor
  · rintro ⟨i, ⟨h1, h2⟩, h3⟩
    exact ⟨i, h1, by simpa using h2, h3⟩
  · rintro ⟨i, h1, h2, h3⟩
    exact ⟨i, ⟨h1, by simpa using h2⟩, h3⟩
theorem mem_ovlF {p q : Int} {l : List It} {n : Int} (h : vldP p q = true) : n ∈ ovlF p q l ↔ ∃ i ∈ l, (i.fr < q ∧ p < i.to) ∧ i.id = n := by
  unfold ovlF
  rw [if_pos h, (putAll_spec _).2.1, mem_ovl]
theorem vld_of {p q : Int} (h : 0 ≤ p ∧ p < q ∧ q ≤ 1099511627776) : vldP p q = true := decide_eq_true h
theorem some_instant {p q n : Int} {l : List It} (hv : ∀ i ∈ l, i.fr < i.to) (hp : 0 ≤ p ∧ p < q ∧ q ≤ 1099511627776) (h : n ∈ ovlF p q l) : ∃ j : Nat, p + (j : Int) < q ∧ n ∈ ovlF (p + (j : Int)) (p + (j : Int) + 1) l := by
  obtain ⟨i, hi, ⟨h1, h2⟩, h3⟩ := (mem_ovlF (vld_of hp)).1 h
  have h4 := hv i hi
  refine ⟨(max p i.fr - p).toNat, by omega, ?_⟩
  rw [mem_ovlF (vld_of (by omega))]
  exact ⟨i, hi, by omega, h3⟩
theorem of_instant {p q n t : Int} {l : List It} (hp : 0 ≤ p ∧ p < q ∧ q ≤ 1099511627776) (ht : p ≤ t ∧ t < q) (h : n ∈ ovlF t (t + 1) l) : n ∈ ovlF p q l := by
  obtain ⟨i, hi, ⟨h1, h2⟩, h3⟩ := (mem_ovlF (vld_of (by omega))).1 h
  exact (mem_ovlF (vld_of hp)).2 ⟨i, hi, by omega, h3⟩
theorem ovlF_len (p q : Int) (l : List It) : (ovlF p q l).length ≤ l.length := by
  unfold ovlF
  split
  · exact Nat.le_trans (putAll_spec _).2.2 (ovl_len p q l)
  · simp
theorem SetIs.valid {t : Tr} {P : It → Prop} (h : SetIs t P) : ∀ i ∈ t.items, i.fr < i.to := fun i hi => (of_decide_eq_true ((h i).1 hi).1).2.1

set_option maxRecDepth 100000 in
set_option maxHeartbeats 16000000 in
theorem lawInstants_any (va : Value) (la : List It) (u z : Int) (w : World) (hla : Rd w (· < w.heap.size) 3 va la.length (icv la)) (hu : (Lit.int .u16 u).wf = true) (hz : (Lit.int .u8 z).wf = true) :
    Calls Try.prog 3 #[va, .int .u16 u, .int .u8 z] w fun e w' => e = .returned (.bool true) ∧ Below w.heap.size w w' := by
  have hu' : 0 ≤ u ∧ u ≤ 65535 := by simpa [Lit.wf, IntKind.min, IntKind.max, IntKind.signed, IntKind.bits] using hu
  have hz' : 0 ≤ z ∧ z ≤ 255 := by simpa [Lit.wf, IntKind.min, IntKind.max, IntKind.signed, IntKind.bits] using hz
  clear hu hz
  obtain ⟨A, c, rfl, c1, c2, c3⟩ := hla.open_
  have HC3 := Lib.hid c3
  unfold maxLen at c2
  clear c3
  by_cases hbig : 100 < la.length
  · go_enter Try.func3, Try.ntmps3
    go_wp2_with fail
    (with_reducible refine (works_any w).mono ?_)
    rintro e2 w2 ⟨rfl, hb2⟩
    go_wp2_with fail
    go_ret
    exact ⟨rfl, hb2⟩
  go_enter Try.func3, Try.ntmps3
  go_wp2_with fail
  obtain ⟨Wd, hWd⟩ : ∃ Wd, Wd = z % 100 + 1 := ⟨_, rfl⟩
  have hWd1 : 1 ≤ Wd ∧ Wd ≤ 100 := by omega
  rw [← hWd]
  generalize z % 100 = z' at *
  clear hWd
  have C0 := Lib.hid (tnew_m (B := w.heap.size) (w0 := w) (w := w) (Below.refl _ _) (Nat.le_refl _))
  generalize hBe : w.heap.size = B at *
  have HBE := Lib.hid hBe
  clear hBe
  (with_reducible refine C0.out.mono ?_)
  rintro e1 w1 ⟨rfl, hm1, _⟩
  clear C0
  go_wp2_with fail
  go_loopw [31] (fun i wr => ∃ (k : Nat) (t : Tr), k ≤ la.length ∧ i = .int .i64 (k : Int) ∧ Mine B w wr B t ∧ t.items.length ≤ k ∧ SetIs t (· ∈ la.take k)) (fun i _ => la.length - (intOf i).toNat)
  case atStart => exact ⟨0, .nil, Nat.zero_le _, rfl, hm1, Nat.le_refl _, SetIs.nil (by simp)⟩
  case round =>
    obtain ⟨k, t, hk, rfl, hmr, htk, hS⟩ := hrel
    have HS := Lib.hid hS
    clear hS hm1
    by_cases hlt : k < la.length
    case pos =>
      have hlr : Rd wr (· < B) 3 (.slice A la.length c) la.length (icv la) := hla.keep (fun b hb => hmr.2.2.1.block b hb)
      have hga : la[k]? = some la[k] := List.getElem?_eq_getElem hlt
      obtain ⟨ba, oa, rfl, _, a0, a1, a2⟩ := RdIt.elem hlr hga
      have HGA := Lib.hid hga
      clear hga
      generalize la[k] = x at *
      obtain ⟨xp, xq, xn⟩ := x
      dsimp only at a0 a1 a2
      obtain ⟨V, hV⟩ : ∃ V, V = wr.alloc (.cells #[.int .i64 xp, .int .i64 xq, .int .i64 xn] 30) := ⟨_, rfl⟩
      have hbV : Below wr.heap.size wr V := by rw [hV]; exact Below.of_alloc _
      have hPV : V.heap[wr.heap.size]? = some (.cells #[.int .i64 xp, .int .i64 xq, .int .i64 xn] 30 (0, 0)) := by rw [hV]; exact heap_alloc_new wr _
      have d0 : V.cell? ⟨wr.heap.size, 0, none⟩ = some (.int .i64 xp) := cell_of_row _ _ 0 _ _ _ hPV
      have d1 : V.cell? ⟨wr.heap.size, 1, none⟩ = some (.int .i64 xq) := cell_of_row _ _ 1 _ _ _ hPV
      have d2 : V.cell? ⟨wr.heap.size, 2, none⟩ = some (.int .i64 xn) := cell_of_row _ _ 2 _ _ _ hPV
      rw [hV] at d0 d1 d2
      have HV := Lib.hid hV
      have CA := Lib.hid (tadd_m xp xq xn t.items _ _ (hmr.below hbV) rfl (by omega) rfl rfl)
      clear hV hPV hbV hmr hlr
      go_wp2_with fail
      rw [← HV.out]
      (with_reducible refine CA.out.mono ?_)
      rintro e3 w3 ⟨rfl, t3, hi3, hm3, _, _⟩
      clear CA d0 d1 d2
      go_wp2_with fail
      go_roundw
      case rel => exact ⟨k + 1, t3, by omega, by go_num, hm3, by rw [hi3]; exact Nat.le_trans (len_addF _ _) (by omega), HS.out.add hi3 (take_mem HGA.out)⟩
      case measure => simp [intOf]; omega
    case neg =>
    obtain rfl : k = la.length := by omega
    clear hlt hk
    have hval := HS.out.valid
    have HVAL := Lib.hid hval
    obtain ⟨L, hL⟩ : ∃ L, L = t.items := ⟨_, rfl⟩
    rw [← hL] at htk HVAL
    have HL := Lib.hid hL.symm
    obtain ⟨R, hR⟩ : ∃ R, ovlF u (u + Wd) L = R := ⟨_, rfl⟩
    have HR := Lib.hid hR
    have hRl : R.length ≤ 100 := by have := ovlF_len u (u + Wd) L; rw [hR] at this; omega
    have CO := Lib.hid (tovl_m u (u + Wd) L R hmr hL.symm (by omega) hR)
    have HM := Lib.hid hmr
    have hsz := hmr.2.2.2
    clear hL hR hmr hval HS
    go_wp2_with fail
    (with_reducible refine CO.out.mono ?_)
    rintro e4 V ⟨A4, k4, rfl, H4, h41, h42, hO4, hb4⟩
    clear CO
    have HMV := Lib.hid (HM.out.below hb4)
    have HT4 := Lib.hid (fun (w' : World) (h : Below V.heap.size V w') => Rd.keep (w' := w') (Rd.of_own hO4) (fun b hb => h.block b hb.2))
    unfold maxLen at h42
    clear hO4 hb4 HM
    have hSV : ∀ (t' : Int), True := fun _ => trivial
    clear hSV
    go_wp2_with fail
    go_loopw [12, 53] (fun n i w' => ∃ k : Nat, k ≤ R.length ∧ i = .int .i64 (k : Int) ∧ n = .int .i64 (k : Int) ∧ Below V.heap.size V w') (fun _ i _ => R.length - (intOf i).toNat)
    case atStart => exact ⟨0, Nat.zero_le _, rfl, rfl, Below.refl _ _⟩
    case round =>
      obtain ⟨k, hk, rfl, rfl, hbr⟩ := hrel
      by_cases hlt : k < R.length
      case pos =>
        have hga : R[k]? = some R[k] := List.getElem?_eq_getElem hlt
        have HMEM := Lib.hid (List.getElem_mem hlt)
        obtain ⟨ba, oa, rfl, _, a0⟩ := RdI.elem (HT4.out wr hbr) hga
        clear hga
        generalize R[k] = x at *
        go_wp2_with fail
        go_loopw [15, 16] (fun b i w' => ∃ (j : Nat) (f : Bool), i = .int .i64 (u + (j : Int)) ∧ (j : Int) ≤ Wd ∧ b = .bool f ∧ (f = false → ∀ m : Nat, m < j → x ∉ ovlF (u + (m : Int)) (u + (m : Int) + 1) L) ∧ Below V.heap.size V w') (fun _ i _ => (u + Wd - intOf i).toNat)
        case atStart => exact ⟨0, false, by simp, by omega, rfl, fun _ m hm => absurd hm (Nat.not_lt_zero _), hbr⟩
        clear hbr a0
        case round =>
          obtain ⟨j, f, rfl, hj, rfl, hf, hbr⟩ := hrel
          have HF := Lib.hid hf
          clear hf
          by_cases hlj : (j : Int) < Wd
          case pos =>
            cases f with
            | true =>
              go_wp2_with fail
              go_roundw
              case rel => exact ⟨k + 1, by omega, by go_num, by go_num, hbr⟩
              case measure => simp [intOf]; omega
            | false =>
              obtain ⟨Rj, hRj⟩ : ∃ Rj, ovlF (u + (j : Int)) (u + (j : Int) + 1) L = Rj := ⟨_, rfl⟩
              have CS := Lib.hid (tstab_m (u + (j : Int)) L Rj (HMV.out.below hbr) HL.out (by omega) hRj)
              have HRJ := Lib.hid hRj
              clear hRj
              go_wp2_with fail
              (with_reducible refine CS.out.mono ?_)
              rintro e5 w5 ⟨A5, k5, rfl, H5, h51, h52, hO5, hb5⟩
              clear CS
              have CC := Lib.hid (contains_any _ (.slice A5 Rj.length k5) Rj x w5 (Rd.of_own hO5))
              have hbr5 := hbr.trans (hb5.mono hbr.size)
              clear hO5 hb5 hbr
              generalize hin : decide (x ∈ Rj) = f' at *
              have HIN := Lib.hid hin
              clear hin
              go_wp2_with fail
              (with_reducible refine CC.out.mono ?_)
              rintro e6 w6 ⟨rfl, rfl⟩
              clear CC
              go_wp2_with fail
              go_roundw
              case rel =>
                refine ⟨j + 1, f', by go_num, by omega, rfl, fun h m hm => ?_, hbr5⟩
                rcases Nat.lt_or_ge m j with h1 | h1
                · exact HF.out (by trivial) m h1
                · obtain rfl : m = j := by omega
                  rw [HRJ.out]
                  have := HIN.out
                  rw [h] at this
                  exact of_decide_eq_false this
              case measure => simp [intOf]; omega
          case neg =>
          cases f with
          | true =>
            go_wp2_with fail
            go_roundw
            case rel => exact ⟨k + 1, by omega, by go_num, by go_num, hbr⟩
            case measure => simp [intOf]; omega
          | false =>
            exfalso
            have hx := HMEM.out
            rw [← HR.out] at hx
            obtain ⟨m, h1, h2⟩ := some_instant HVAL.out (by omega) hx
            exact HF.out rfl m (by omega) h2
      case neg =>
      obtain rfl : k = R.length := by omega
      clear hlt hk
      go_wp2_with fail
      go_loopw [17] (fun i w' => ∃ j : Nat, i = .int .i64 (u + (j : Int)) ∧ (j : Int) ≤ Wd ∧ Below V.heap.size V w') (fun i _ => (u + Wd - intOf i).toNat)
      case atStart => exact ⟨0, by simp, by omega, hbr⟩
      clear hbr
      case round =>
        obtain ⟨j, rfl, hj, hbr⟩ := hrel
        by_cases hlj : (j : Int) < Wd
        case pos =>
          obtain ⟨Rj, hRj⟩ : ∃ Rj, ovlF (u + (j : Int)) (u + (j : Int) + 1) L = Rj := ⟨_, rfl⟩
          have CS := Lib.hid (tstab_m (u + (j : Int)) L Rj (HMV.out.below hbr) HL.out (by omega) hRj)
          have HRJ := Lib.hid (fun x (hx : x ∈ Rj) => show x ∈ R from by rw [← HR.out]; rw [← hRj] at hx; exact of_instant (by omega) (by omega) hx)
          have hRjl : Rj.length ≤ 100 := by have := ovlF_len (u + (j : Int)) (u + (j : Int) + 1) L; rw [hRj] at this; omega
          clear hRj
          go_wp2_with fail
          (with_reducible refine CS.out.mono ?_)
          rintro e5 w5 ⟨A5, k5, rfl, H5, h51, h52, hO5, hb5⟩
          clear CS
          unfold maxLen at h52
          have hbr5 := hbr.trans (hb5.mono hbr.size)
          clear hb5 hbr
          go_wp2_with fail
          go_loopw [95] (fun i w' => ∃ m : Nat, m ≤ Rj.length ∧ i = .int .i64 (m : Int) ∧ w' = w5) (fun i _ => Rj.length - (intOf i).toNat)
          case atStart => exact ⟨0, Nat.zero_le _, rfl, rfl⟩
          case round =>
            obtain ⟨m, hm, rfl, rfl⟩ := hrel
            by_cases hlm : m < Rj.length
            case pos =>
              have hga : Rj[m]? = some Rj[m] := List.getElem?_eq_getElem hlm
              have hmem := HRJ.out _ (List.getElem_mem hlm)
              obtain ⟨ba, oa, rfl, _, a0⟩ := RdI.elem (Rd.of_own hO5) hga
              clear hga
              generalize Rj[m] = x at *
              have CC := Lib.hid (contains_any _ (.slice A4 R.length k4) R x wr (HT4.out wr hbr5))
              rw [decide_eq_true hmem] at CC
              clear hmem
              go_wp2_with fail
              (with_reducible refine CC.out.mono ?_)
              rintro e6 w6 ⟨rfl, rfl⟩
              clear CC
              go_wp2_with fail
              go_roundw
              case rel => exact ⟨m + 1, by omega, by go_num, by trivial⟩
              case measure => simp [intOf]; omega
            case neg =>
            go_wp2_with fail
            go_roundw
            case rel => exact ⟨j + 1, by go_num, by omega, hbr5⟩
            case measure => simp [intOf]; omega
        case neg =>
        go_wp2_with fail
        (with_reducible refine (works_any wr).mono ?_)
        rintro e7 w7 ⟨rfl, hb7⟩
        go_wp2_with fail
        go_ret
        exact ⟨rfl, HBE.out ▸ ((HMV.out.below hbr).below hb7).2.2.1⟩
end Go.Proofs.Ytkocehfapcmiiaa
