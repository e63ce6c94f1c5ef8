/-
  Logs: the chapter's examples.
-/
import Derived.Test.YtooojgokkigncaaWalC
import Derived.Lib.SlBytesConst
namespace Go.Proofs.Ytooojgokkigncaa
open Go.RowKit Go.Lib Go.IntWalk

/-- records that are appended -/
def aps (nm : List UInt8) (rs : List (List UInt8)) : List DOp := rs.map fun r => ⟨0, nm, [], frm r⟩
theorem view_aps (fm : FM) (nm : List UInt8) (rs : List (List UInt8)) : (viewF fm (aps nm rs) nm).getD [] = (fm nm).getD [] ++ frs rs := by
  induction rs generalizing fm with
  | nil => simp [aps, viewF, frs]
  | cons r rs ih =>
    have e : viewF fm (aps nm (r :: rs)) = viewF (applyF fm ⟨0, nm, [], frm r⟩) (aps nm rs) := rfl
    rw [e, ih]
    simp [applyF, updG, frs]
theorem aps_snoc (nm : List UInt8) (rs : List (List UInt8)) (r : List UInt8) : aps nm rs ++ [⟨0, nm, [], frm r⟩] = aps nm (rs ++ [r]) := by simp [aps]
theorem aps_len (nm : List UInt8) (rs : List (List UInt8)) : (aps nm rs).length = rs.length := by simp [aps]
theorem open_same {fm : FM} {os : List DOp} {nm : List UInt8} {rs : List (List UInt8)} (h : (viewF fm os nm).getD [] = frs rs) (hr : ∀ r ∈ rs, r.length ≤ 1048576) : openD fm os nm = (fm, os) ∧ (scanF ((viewF fm os nm).getD [])).1 = rs := by
  have hs := scanF_frames rs [] hr (by simp)
  rw [List.append_nil] at hs
  unfold openD
  rw [h, hs]
  refine ⟨if_neg ?_, rfl⟩
  rw [frs_length]
  exact Nat.lt_irrefl _
theorem open_torn {fm : FM} {os : List DOp} {nm tail : List UInt8} {rs : List (List UInt8)} (h : (viewF fm os nm).getD [] = frs rs ++ tail) (hr : ∀ r ∈ rs, r.length ≤ 1048576) (ht : tail.length < 8) : (scanF ((viewF fm os nm).getD [])).1 = rs := by
  rw [h, scanF_frames rs tail hr ht]
theorem crash_first {fm : FM} {nm : List UInt8} (rs : List (List UInt8)) (torn : Int) : ∃ tail : List UInt8, tail.length ≤ torn.toNat ∧ (viewF (viewF fm (crashOps (aps nm rs) 0 torn)) [] nm).getD [] = (fm nm).getD [] ++ tail := by
  cases rs with
  | nil => exact ⟨[], by simp, by simp [crashOps, aps, viewF]⟩
  | cons r rs =>
    by_cases ht : 0 < torn
    · refine ⟨(frm r).take torn.toNat, by rw [List.length_take]; omega, ?_⟩
      simp [crashOps, aps, tornOp, ht, viewF, applyF, updG]
    · refine ⟨[], by simp, ?_⟩
      simp [crashOps, aps, tornOp, ht, viewF]

def nm7 : List UInt8 := [102, 48, 48, 48, 48, 48, 49]
theorem nm7V : Value.string ⟨#[102, 48, 48, 48, 48, 48, 49]⟩ = .string (strB nm7) := rfl
theorem nm7_word : wordF nm7 = true := by decide
theorem DatL.len0 {B : Nat} {w : World} {v : Value} (h : DatL B w v []) : ∃ A c, v = .slice A 0 c := by
  obtain ⟨A, c, hv, _⟩ := h.open_
  exact ⟨A, c, hv⟩
theorem rdB_fr {B : Nat} (w : World) (m : List UInt8) (fr : Nat × Nat) (hm : m.length ≤ 1000) : DatB B (w.alloc (.cells (bv m).toArray 5 fr)) (.slice (some ⟨w.heap.size, 0, none⟩) m.length m.length) m := by
  refine ⟨by rw [bv_length, Nat.mul_one], _, _, rfl, Nat.le_refl _, by simp only [maxLen]; omega, fun h => (Option.some_ne_none _ h).elim, fun _ => ⟨_, rfl, .inr ⟨_, _, heap_alloc_new w _⟩, fun j u hu => ?_⟩⟩
  have hadd : (⟨w.heap.size, 0, none⟩ : Addr).add j = ⟨w.heap.size, j, none⟩ := by unfold Addr.add; split <;> simp_all
  rw [hadd, cell_of_row (w.alloc (.cells (bv m).toArray 5 fr)) w.heap.size j (bv m).toArray 5 fr (heap_alloc_new w _)]
  simpa using hu
set_option maxRecDepth 100000 in
set_option maxHeartbeats 4000000 in
theorem wworks_any (w : World) : Calls Try.prog 14 #[] w fun e w' => e = .returned (.bool true) ∧ Below w.heap.size w w' := by
  have hB0 : w.heap.size ≤ w.heap.size := Nat.le_refl _
  generalize hBe : w.heap.size = B at hB0
  have HBE := Lib.hid hBe
  clear hBe
  go_enter Try.func14, Try.ntmps14
  go_wp2_with fail
  (with_reducible refine (dnew_any B w (by have := HBE.out; omega)).mono ?_)
  rintro e w1 ⟨D, rfl, hDl, hD1, hb1⟩
  have hB1 : B ≤ w1.heap.size := by have := hb1.size; have := HBE.out; omega
  go_wp2_with fail
  rw [nm7V]
  (with_reducible refine (wopen_ok B 0 D none (fun _ => none) [] nm7 w1 hB1 hD1 nm7_word (by omega)).mono ?_)
  rintro e w2 ⟨L, v2, P2, rfl, hL2, hLog2, hR2, hD2, hP2, hC2⟩
  have ho := @open_same (fun _ => none) [] nm7 [] (by simp [viewF, frs]) (by simp)
  rw [ho.1] at hD2
  rw [ho.2] at hLog2 hR2
  clear ho
  have hB2 : B ≤ w2.heap.size := by have := hC2.size; omega
  have hBL : B ≤ L := by omega
  obtain ⟨A2, c2, rfl⟩ := hR2.len0
  simp only [List.length_nil, fsum, List.map_nil, List.sum_nil] at hLog2
  rw [show ((0 : Nat) : Int) = 0 from rfl] at hLog2
  have kc := fun (w : World) (C : Array Value) (n c : Nat) => Lib.run_convert_bytes_const (P := Try.prog) w 23 5 C n c Try.underlying23 Try.underlying5
  go_wp2_with fail
  have hda : DatB B (w2.alloc (.cells #[.int .u8 97, .int .u8 98] 5 (2, 3))) (.slice (some ⟨w2.heap.size, 0, none⟩) 2 2) [97, 98] := rdB_fr w2 [97, 98] (2, 3) (by simp)
  have hba : Below w2.heap.size w2 (w2.alloc (.cells #[.int .u8 97, .int .u8 98] 5 (2, 3))) := Below.of_alloc _
  have hBa : B ≤ (w2.alloc (.cells #[.int .u8 97, .int .u8 98] 5 (2, 3))).heap.size := by simp; omega
  (with_reducible refine (wappend_ok B 3 D L P2 (fun _ => none) [] nm7 0 0 _ [97, 98] _ hBa (hD2.below hB2 hba) (hLog2.below hba) hBL nm7_word (hda.rd hBa) ?_ ?_ ?_ ?_ ?_ ?_).mono ?_)
  all_goals first | omega | (simp; done) | skip
  rintro e w3 ⟨rfl, P3, hD3, hP3, hLog3, hC3⟩
  have hDa := hD2.below hB2 hba
  have hW1 : Below B w w1 := HBE.out ▸ hb1
  have hW2 : Below B w w2 := hW1.trans (hC2.below hB1 (fun i hi => hD1.ge hi))
  have hW3 : Below B w w3 := (hW2.trans (hba.mono hB2)).trans (hC3.below hBa (fun i hi => by rcases hi with h | h | h; (exact hDa.ge (.inl h)); (omega); (exact hDa.ge (.inr h))))
  have hB3 : B ≤ w3.heap.size := by have := hC3.size; omega
  have hD3 : DiskAt B 14 w3 D P3 (fun _ => none) (aps nm7 [[97, 98]]) := hD3
  have hLog3 : LogIs w3 L 1 10 D nm7 := by simpa using hLog3
  clear hda hba hBa hDa hP3 hC3 hP2 hC2 hD2 hLog2 hb1 hD1 hR2
  go_wp2_with fail
  have hda : DatB B (w3.alloc (.cells #[.int .u8 99] 5 (1, 2))) (.slice (some ⟨w3.heap.size, 0, none⟩) 1 1) [99] := rdB_fr w3 [99] (1, 2) (by simp)
  have hba : Below w3.heap.size w3 (w3.alloc (.cells #[.int .u8 99] 5 (1, 2))) := Below.of_alloc _
  have hBa : B ≤ (w3.alloc (.cells #[.int .u8 99] 5 (1, 2))).heap.size := by simp; omega
  (with_reducible refine (wappend_ok B 14 D L P3 (fun _ => none) (aps nm7 [[97, 98]]) nm7 1 10 _ [99] _ hBa (hD3.below hB3 hba) (hLog3.below hba) hBL nm7_word (hda.rd hBa) ?_ ?_ ?_ ?_ ?_ ?_).mono ?_)
  all_goals first | omega | (simp; done) | skip
  rintro e w4 ⟨rfl, P4, hD4, hP4, hLog4, hC4⟩
  have hDa := hD3.below hB3 hba
  have hW4 : Below B w w4 := (hW3.trans (hba.mono hB3)).trans (hC4.below hBa (fun i hi => by rcases hi with h | h | h; (exact hDa.ge (.inl h)); (omega); (exact hDa.ge (.inr h))))
  have hB4 : B ≤ w4.heap.size := by have := hC4.size; omega
  have hD4 : DiskAt B 24 w4 D P4 (fun _ => none) (aps nm7 [[97, 98], [99]]) := hD4
  have hLog4 : LogIs w4 L 2 19 D nm7 := by simpa using hLog4
  clear hda hba hBa hDa hP4 hC4 hD3 hLog3
  go_wp2_with fail
  (with_reducible refine (wsync_any B 24 D L P4 (fun _ => none) (aps nm7 [[97, 98], [99]]) nm7 2 19 w4 hB4 hD4 hLog4 (by omega)).mono ?_)
  rintro e w5 ⟨u5, rfl, hD5, hC5⟩
  have hLD : ¬ L = D := fun h => hD4.not_log hLog4 (by decide) (by decide) (.inl h)
  have hLog5 := hLog4.chg hC5 hLD
  have hW5 : Below B w w5 := hW4.trans (hC5.below hB4 (fun i hi => hD4.ge (.inl hi)))
  have hB5 : B ≤ w5.heap.size := by have := hC5.size; omega
  have hfm : (viewF (fun _ => none) (aps nm7 [[97, 98], [99]]) nm7).getD [] = frs [[97, 98], [99]] := view_aps _ _ _
  generalize viewF (fun _ => none) (aps nm7 [[97, 98], [99]]) = fm5 at *
  have HFM := Lib.hid hfm
  clear hfm hC5 hD4 hLog4
  go_wp2_with fail
  (with_reducible refine (wlen_any L D nm7 2 19 w5 hLog5).mono ?_)
  rintro e w5' ⟨rfl, rfl⟩
  go_wp2_with fail
  (with_reducible refine (wsize_any L D nm7 2 19 w5 hLog5).mono ?_)
  rintro e w5' ⟨rfl, rfl⟩
  go_wp2_with fail
  (with_reducible refine (wname_any L D nm7 2 19 w5 hLog5).mono ?_)
  rintro e w5' ⟨rfl, rfl⟩
  rw [← nm7V]
  go_wp2_with fail
  have hda : DatB B (w5.alloc (.cells #[.int .u8 97, .int .u8 98, .int .u8 99] 5 (3, 4))) (.slice (some ⟨w5.heap.size, 0, none⟩) 3 3) [97, 98, 99] := rdB_fr w5 [97, 98, 99] (3, 4) (by simp)
  have hba : Below w5.heap.size w5 (w5.alloc (.cells #[.int .u8 97, .int .u8 98, .int .u8 99] 5 (3, 4))) := Below.of_alloc _
  have hBa : B ≤ (w5.alloc (.cells #[.int .u8 97, .int .u8 98, .int .u8 99] 5 (3, 4))).heap.size := by simp; omega
  (with_reducible refine (wappend_ok B 24 D L none fm5 [] nm7 2 19 _ [97, 98, 99] _ hBa (hD5.below hB5 hba) (hLog5.below hba) hBL nm7_word (hda.rd hBa) ?_ ?_ ?_ ?_ ?_ ?_).mono ?_)
  all_goals first | omega | (simp; done) | skip
  rintro e w6 ⟨rfl, P6, hD6, hP6, hLog6, hC6⟩
  have hDa := hD5.below hB5 hba
  have hW6 : Below B w w6 := (hW5.trans (hba.mono hB5)).trans (hC6.below hBa (fun i hi => by rcases hi with h | h | h; (exact hDa.ge (.inl h)); (omega); (exact hDa.ge (.inr h))))
  have hB6 : B ≤ w6.heap.size := by have := hC6.size; omega
  have hD6 : DiskAt B 36 w6 D P6 fm5 (aps nm7 [[97, 98, 99]]) := hD6
  clear hda hba hBa hDa hP6 hC6 hD5 hLog5
  go_wp2_with fail
  (with_reducible refine (dcrash_any B 36 D P6 fm5 (aps nm7 [[97, 98, 99]]) 0 5 w6 hB6 hD6 (by omega)).mono ?_)
  rintro e w7 ⟨u7, rfl, hD7, hC7⟩
  have hW7 : Below B w w7 := hW6.trans (hC7.below hB6 (fun i hi => hD6.ge (.inl hi)))
  have hB7 : B ≤ w7.heap.size := by have := hC7.size; omega
  obtain ⟨tail, ht1, ht2⟩ := @crash_first fm5 nm7 [[97, 98, 99]] 5
  rw [HFM.out] at ht2
  generalize viewF fm5 (crashOps (aps nm7 [[97, 98, 99]]) 0 5) = fm7 at *
  have hrc := open_torn ht2 (by simp) (by simp at ht1; omega)
  have HRC := Lib.hid hrc
  have HOS : Hid ((openD fm7 [] nm7).2 = []) := Lib.hid (by unfold openD; split <;> rfl)
  clear hrc ht1 ht2 hC7 hD6
  go_wp2_with fail
  rw [nm7V]
  (with_reducible refine (wopen_ok B 36 D none fm7 [] nm7 w7 hB7 hD7 nm7_word (by omega)).mono ?_)
  rintro e w8 ⟨M, v8, P8, rfl, hM8, hLog8, hR8, hD8, hP8, hC8⟩
  rw [HRC.out] at hLog8 hR8
  rw [HOS.out] at hD8
  have hLog8 : LogIs w8 M 2 19 D nm7 := by simpa [fsum] using hLog8
  have hB8 : B ≤ w8.heap.size := by have := hC8.size; omega
  have hW8 : Below B w w8 := hW7.trans (hC8.below hB7 (fun i hi => hD7.ge hi))
  clear hC8 hD7
  generalize (openD fm7 [] nm7).1 = fm8 at *
  obtain ⟨A8, c8, rfl, s1, s2, s3⟩ := hR8.open_
  clear s3
  have kc2 : (convert 23 23 (.slice (some ⟨w8.heap.size + 1, 0, none⟩) 1 1)).run Try.prog ((w8.alloc (.cells #[.int .u8 97, .int .u8 98] 5 (2, 3))).alloc (.cells #[.int .u8 99] 5)) = .ok (.slice (some ⟨w8.heap.size + 1, 0, none⟩) 1 1) ((w8.alloc (.cells #[.int .u8 97, .int .u8 98] 5 (2, 3))).alloc (.cells #[.int .u8 99] 5 (1, 2))) := by
    have := kc (w8.alloc (.cells #[.int .u8 97, .int .u8 98] 5 (2, 3))) #[.int .u8 99] 1 1
    simpa using this
  go_wp2_with fail
  have hBa1 : B ≤ (w8.alloc (.cells #[.int .u8 97, .int .u8 98] 5 (2, 3))).heap.size := by simp; omega
  have hBa2 : B ≤ ((w8.alloc (.cells #[.int .u8 97, .int .u8 98] 5 (2, 3))).alloc (.cells #[.int .u8 99] 5 (1, 2))).heap.size := by simp; omega
  have hBa3 : B ≤ (((w8.alloc (.cells #[.int .u8 97, .int .u8 98] 5 (2, 3))).alloc (.cells #[.int .u8 99] 5 (1, 2))).alloc (.cells #[.slice (some ⟨w8.heap.size, 0, none⟩) 2 2, .slice (some ⟨w8.heap.size + 1, 0, none⟩) 1 1] 23)).heap.size := by simp; omega
  have hba : Below w8.heap.size w8 (((w8.alloc (.cells #[.int .u8 97, .int .u8 98] 5 (2, 3))).alloc (.cells #[.int .u8 99] 5 (1, 2))).alloc (.cells #[.slice (some ⟨w8.heap.size, 0, none⟩) 2 2, .slice (some ⟨w8.heap.size + 1, 0, none⟩) 1 1] 23)) := ((Below.of_alloc _).trans ((Below.of_alloc _).mono (by simp))).trans ((Below.of_alloc _).mono (by simp; omega))
  have hx1 : DatB B (((w8.alloc (.cells #[.int .u8 97, .int .u8 98] 5 (2, 3))).alloc (.cells #[.int .u8 99] 5 (1, 2))).alloc (.cells #[.slice (some ⟨w8.heap.size, 0, none⟩) 2 2, .slice (some ⟨w8.heap.size + 1, 0, none⟩) 1 1] 23)) (.slice (some ⟨w8.heap.size, 0, none⟩) 2 2) [97, 98] := ((rdB_fr w8 [97, 98] (2, 3) (by simp)).alloc hBa1 _).alloc hBa2 _
  have hx2 : DatB B (((w8.alloc (.cells #[.int .u8 97, .int .u8 98] 5 (2, 3))).alloc (.cells #[.int .u8 99] 5 (1, 2))).alloc (.cells #[.slice (some ⟨w8.heap.size, 0, none⟩) 2 2, .slice (some ⟨w8.heap.size + 1, 0, none⟩) 1 1] 23)) (.slice (some ⟨w8.heap.size + 1, 0, none⟩) 1 1) [99] := by
    have := (rdB_fr (B := B) (w8.alloc (.cells #[.int .u8 97, .int .u8 98] 5 (2, 3))) [99] (1, 2) (by simp)).alloc hBa2 (.cells #[.slice (some ⟨w8.heap.size, 0, none⟩) 2 2, .slice (some ⟨w8.heap.size + 1, 0, none⟩) 1 1] 23)
    rw [World.size_alloc] at this
    exact this
  have hLL : DatL B (((w8.alloc (.cells #[.int .u8 97, .int .u8 98] 5 (2, 3))).alloc (.cells #[.int .u8 99] 5 (1, 2))).alloc (.cells #[.slice (some ⟨w8.heap.size, 0, none⟩) 2 2, .slice (some ⟨w8.heap.size + 1, 0, none⟩) 1 1] 23)) (.slice (some ⟨w8.heap.size + 1 + 1, 0, none⟩) 2 2) [[97, 98], [99]] := by
    refine ⟨[.slice (some ⟨w8.heap.size, 0, none⟩) 2 2, .slice (some ⟨w8.heap.size + 1, 0, none⟩) 1 1], ?_, ?_⟩
    · have h := Rd.new' ((w8.alloc (.cells #[.int .u8 97, .int .u8 98] 5 (2, 3))).alloc (.cells #[.int .u8 99] 5 (1, 2))) (w8.heap.size + 1 + 1) (by simp) [.slice (some ⟨w8.heap.size, 0, none⟩) 2 2, .slice (some ⟨w8.heap.size + 1, 0, none⟩) 1 1] 23 1 2 rfl (by unfold maxLen; omega)
      refine Rd.wide h ?_
      rintro b rfl
      have h2 := heap_alloc_new ((w8.alloc (.cells #[.int .u8 97, .int .u8 98] 5 (2, 3))).alloc (.cells #[.int .u8 99] 5 (1, 2))) (.cells #[.slice (some ⟨w8.heap.size, 0, none⟩) 2 2, .slice (some ⟨w8.heap.size + 1, 0, none⟩) 1 1] 23)
      exact .inr ⟨_, by simpa using h2⟩
    · intro i u l hu hl
      match i, hu, hl with
      | 0, hu, hl => simp at hu hl; subst hu; subst hl; exact hx1
      | 1, hu, hl => simp at hu hl; subst hu; subst hl; exact hx2
      | n + 2, hu, hl => simp at hu
  have hR9 : DatL B (((w8.alloc (.cells #[.int .u8 97, .int .u8 98] 5 (2, 3))).alloc (.cells #[.int .u8 99] 5 (1, 2))).alloc (.cells #[.slice (some ⟨w8.heap.size, 0, none⟩) 2 2, .slice (some ⟨w8.heap.size + 1, 0, none⟩) 1 1] 23)) (.slice A8 2 c8) [[97, 98], [99]] := hR8.below hB8 hba
  (with_reducible refine (lists_any B _ _ [[97, 98], [99]] [[97, 98], [99]] _ hBa3 hR9 hLL).mono ?_)
  rintro e w9 ⟨rfl, hb9⟩
  rw [show decide (([[97, 98], [99]] : List (List UInt8)) = [[97, 98], [99]]) = true from by decide]
  have hb89 : Below w8.heap.size w8 w9 := hba.trans (hb9.mono (by simp; omega))
  have hLog9 := hLog8.below hb89
  have hD9 := hD8.below hB8 hb89
  have hW9 : Below B w w9 := hW8.trans (hb89.mono hB8)
  clear kc kc2 hx1 hx2 hLL hR9 hba hb9 hb89 hBa1 hBa2 hBa3
  go_wp2_with fail
  (with_reducible refine (wsize_any M D nm7 2 19 w9 hLog9).mono ?_)
  rintro e w9' ⟨rfl, rfl⟩
  go_wp2_with fail
  (with_reducible refine (dpending_any B _ D P8 fm8 [] w9 hD9).mono ?_)
  rintro e w9' ⟨rfl, rfl⟩
  go_wp2_with fail
  go_ret
  exact ⟨rfl, HBE.out ▸ hW9⟩
end Go.Proofs.Ytooojgokkigncaa
