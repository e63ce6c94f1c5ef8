/-
  For every slice of bytes b, every row of values, every period and every integer at, CodecBack returns true and changes nothing that was there. No condition.
-/
import Derived.Test.YthfclmkeadpcbaaLawBackA
import Derived.Test.YthfclmkeadpcbaaLawRows
namespace Go.Proofs.Ythfclmkeadpcbaa
open Go.ChangeShapes Go.WideShapes Go.ChangeAt Go.RowKit Go.Lib

theorem putV_of {x : Val} (h : validV x = true) : putV x := by
  have h3 := valid_parts h
  obtain ⟨kd, i, s⟩ := x
  refine ⟨?_, ?_, h3.2.1, h3.1⟩
  all_goals
    clear h3
    unfold validV at h
    simp only at h ⊢
    split at h
    · simp at h; omega
    · split at h
      · simp at h; omega
      · split at h
        · simp at h; omega
        · split at h
          · simp at h; omega
          · cases h
theorem take_put {l a e r : List UInt8} (h : l = a ++ (e ++ r)) : l.take a.length ++ e = l.take (a ++ e).length ∧ a.length ≤ l.length ∧ (a ++ e).length ≤ l.length ∧ l.take a.length = a := by
  subst h
  refine ⟨?_, by simp, by simp, by simp⟩
  rw [List.take_left, ← List.append_assoc, List.take_left]

theorem lawBack_any (v u : Value) (l : List UInt8) (xs : List Val) (f t k : Int) (w : World) (hv : RdB w (· < w.heap.size) v l) (hu : RdV w (· < w.heap.size) u xs) (hok : ∀ x ∈ xs, goV x) (hl : l.length ≤ 140737488351232)
    (f1 : -9223372036854775808 ≤ f) (f2 : f ≤ 9223372036854775807) (t1 : -9223372036854775808 ≤ t) (t2 : t ≤ 9223372036854775807) :
    Calls Try.prog 10 #[v, u, .agg #[.int .i64 f, .int .i64 t], .int .i64 k] w fun e w' => e = .returned (.bool true) ∧ Below w.heap.size w w' := by
  cases h : (xs.all validV && decide (xs.length ≤ 12))
  · exact lawBack_no v u xs f t k w hu hok h
  · have hp := valid_all h hok
    rw [Bool.and_eq_true, decide_eq_true_eq] at h
    obtain ⟨A, c, rfl, hc, _, _⟩ := hv.open_
    have hl' : l.length + (encR xs).length + 300 ≤ 140737488354000 := by omega
    rcases hR : decR l k with ⟨ys, m, d⟩
    rcases hP : decP l k with ⟨⟨yf, yt⟩, m2, d2⟩
    by_cases hd : d = 0
    · subst hd
      obtain ⟨a, r, e1, e2, e3, e4, e5⟩ := decR_got hR
      obtain ⟨q1, q2, q3, q4⟩ := take_put e1
      rw [e3] at hR
      have hya : (l.take a.length).length + (encR ys).length + 200 ≤ 140737488354000 := by
        rw [q4]; rw [List.length_append] at q3; omega
      have hys : ∀ x ∈ ys, putV x := fun x hx => putV_of (List.all_eq_true.mp e4 x hx)
      by_cases hd2 : d2 = 0
      · subst hd2
        obtain ⟨a', r', g1, g2, g3, g4⟩ := decP_got hP
        obtain ⟨p1, p2, p3, p4⟩ := take_put g1
        rw [g3] at hP
        simp only [validP, Bool.and_eq_true, decide_eq_true_eq] at g4
        exact lawBack_yy A c u l xs f t k w hc hv hu hok hp.1 hl' f1 f2 t1 t2 h.1 h.2 ys _ _ q2 q3 hys q1 hya hR e2 yf yt _ _ p2 p3 p1 (by omega) (by omega) (by omega) (by omega) hP g2
      · exact lawBack_yn A c u l xs f t k w hc hv hu hok hp.1 hl' f1 f2 t1 t2 h.1 h.2 ys _ _ q2 q3 hys q1 hya hR e2 yf yt m2 d2 (by simpa using hd2) hP
    · by_cases hd2 : d2 = 0
      · subst hd2
        obtain ⟨a', r', g1, g2, g3, g4⟩ := decP_got hP
        obtain ⟨p1, p2, p3, p4⟩ := take_put g1
        rw [g3] at hP
        simp only [validP, Bool.and_eq_true, decide_eq_true_eq] at g4
        exact lawBack_ny A c u l xs f t k w hc hv hu hok hp.1 hl' f1 f2 t1 t2 h.1 h.2 ys m d (by simpa using hd) hR yf yt _ _ p2 p3 p1 (by omega) (by omega) (by omega) (by omega) hP g2
      · exact lawBack_nn A c u l xs f t k w hv hu hok hp.1 hl' f1 f2 t1 t2 h.1 h.2 ys m d (by simpa using hd) hR yf yt m2 d2 (by simpa using hd2) hP

set_option maxRecDepth 100000 in
theorem back_lifted (os : Os) (started : os.Started) (H : Type) (enc : TypeId × Value → H) :
    ReturnsInHanded {} Try.checked os 10 .any (Rows.codecBackSpec.pre6 enc Try.prog Try.f10 Rows.codecBackRow.domain false) (Rows.codecBackSpec.post enc Try.prog Try.f10 false true false false) := by
  refine returnsInHanded_of_change_sized (C := Try.checked) own_knob started (by kernel_rfl) Try.func10
    (ChangeSpec.witness6 (enc := enc) (C := Try.checked) false ⟨#[], #[.slice none 0 0, .slice none 0 0, .agg #[.int .i64 0, .int .i64 0], .int .i64 0], []⟩ 8 (by kernel_rfl) (by kernel_rfl) (by kernel_rfl) (by kernel_rfl)) ?_
  intro W base args ds gs before hval hW _ hz _
  have hW' := hW
  obtain ⟨p, q, hA0, hV, rfl, hfz, hnd⟩ := hW
  have hA : DataW.TrodAll enc Try.prog W 0 (fun _ => true) true Try.f10.params.toList args.toList ds p := hA0
  have hval' : ∀ (j : Nat) t v, Try.f10.params[j]? = some t → args[j]? = some v → Value.okWide Try.prog W .any base t v := hval
  rw [Try.params10] at hA hval'
  obtain ⟨v0, vs0, d0, ds0, p0, q0, hargs, rfl, rfl, h0, r0⟩ := trodAll_cons hA
  obtain ⟨v1, vs1, d1, ds1, p1, q1, rfl, rfl, rfl, h1, r1⟩ := trodAll_cons r0
  obtain ⟨v2, vs2, d2, ds2, p2, q2, rfl, rfl, rfl, h2, r2⟩ := trodAll_cons r1
  obtain ⟨v3, vs3, d3, ds3, p3, q3, rfl, rfl, rfl, h3, r3⟩ := trodAll_cons r2
  obtain ⟨rfl, rfl, rfl⟩ := trodAll_nil r3
  obtain rfl : args = #[v0, v1, v2, v3] := by cases args; simp_all
  obtain ⟨l0, hl0, hd0⟩ := open_B (hval' 0 22 v0 rfl rfl) h0
  obtain ⟨xs1, hr1, hok1, hd1⟩ := open_R (hval' 1 30 v1 rfl rfl) h1
  obtain ⟨f2, t2, rfl, bf2, bt2⟩ := open_P (hval' 2 44 v2 rfl rfl) h2
  obtain ⟨n3, rfl, rfl, rfl, w3⟩ := open_int Try.underlying3 (hval' 3 3 v3 rfl rfl) h3
  have len0 : l0.length ≤ 140737488351232 := by
    rcases hd0 with ⟨_, rfl⟩ | ⟨el, sp, rfl, he⟩
    · simp
    · have := sized_slice hz (j := 0) (t := 22) (e := 5) rfl rfl Try.underlying22
      have := lenB this
      omega
  refine (lawBack_any v0 v1 l0 xs1 f2 t2 n3 W hl0 hr1 hok1 len0 bf2.1 bf2.2 bt2.1 bt2.2).mono fun e W' ⟨he, hb⟩ => ?_
  subst he
  exact ⟨_, rfl, law_post laid_out (tb := 4) (by kernel_rfl) rfl (by kernel_rfl) Try.underlying4 hW' rfl hb⟩

theorem back_holds : Rows.CodecBackSaid :=
  OpenClaim.holds_of_wide 10 Try.f10 rfl rfl rfl rfl rfl rfl rfl ⟨rfl, rfl, rfl, rfl, rfl⟩ rfl rfl rfl rfl rfl (by kernel_rfl) Try.func10 (by kernel_rfl)
    (of_decide_eq_true (by kernel_rfl)) (by unfold Func.isWrapper; first | (rw [if_pos (by decide +kernel)]; kernel_rfl) | (rw [if_neg (by decide +kernel)]; exact ⟨rfl, rfl⟩))
    (fun os started H enc _ => back_lifted os started H enc)
#print axioms back_holds
end Go.Proofs.Ythfclmkeadpcbaa
