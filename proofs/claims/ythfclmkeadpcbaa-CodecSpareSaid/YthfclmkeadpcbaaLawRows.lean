/-
  For every slice of bytes b, every row of values and every integer at, CodecRows returns true and changes nothing that was there. No condition.
-/
import Derived.Test.YthfclmkeadpcbaaLawRowsA
namespace Go.Proofs.Ythfclmkeadpcbaa
open Go.ChangeShapes Go.WideShapes Go.ChangeAt Go.RowKit Go.Lib

theorem encI_two {n : Nat} (h : n ≤ 200) : (encI (n : Int)).length ≤ 2 := by
  have hz : zz (n : Int) = 2 * n := by unfold zz; rw [if_neg (by omega)]; omega
  unfold encI
  rw [hz]
  by_cases h1 : 2 * n < 128
  · rw [vl_small _ h1]; simp
  · rw [vl_big _ (by omega), vl_small _ (by omega)]; simp
theorem valid_parts {x : Val} (h : validV x = true) : (x.kind = 3 → x.int = 0 ∨ x.int = 1) ∧ x.text.size ≤ 200 ∧ (encV x).length ≤ 203 := by
  obtain ⟨kd, i, s⟩ := x
  have e : s.data.toList = [] → s.size = 0 := fun h => by rw [← str_len, h]; rfl
  have e1 : (encI i).length ≤ 10 := encI_length i
  unfold validV at h
  unfold encV
  simp only at h ⊢
  split at h
  · rename_i h0; subst h0; simp at h; have := e (by simpa using h.2); simp; omega
  · split at h
    · rename_i h0; subst h0; simp at h; have := e (by simpa using h.2); simp; omega
    · split at h
      · rename_i h0
        subst h0
        simp at h
        have hs : s.size ≤ 200 := h.1.2
        have e2 : (encI s.size).length ≤ 2 := encI_two hs
        have e3 : s.data.size = s.size := rfl
        simp
        omega
      · split at h
        · rename_i h0; subst h0; simp at h; have := e (by simpa using h.2); simp; omega
        · cases h
theorem valid_all {xs : List Val} (h : (xs.all validV && decide (xs.length ≤ 12)) = true) (hok : ∀ x ∈ xs, goV x) : (∀ x ∈ xs, putV x) ∧ (encR xs).length ≤ 2446 := by
  rw [Bool.and_eq_true, List.all_eq_true, decide_eq_true_eq] at h
  refine ⟨fun x hx => ?_, ?_⟩
  · have hv := valid_parts (h.1 x hx)
    obtain ⟨a, b, _⟩ := hok x hx
    exact ⟨a, b, hv.2.1, hv.1⟩
  · have hle : (encVs xs).length ≤ 203 * xs.length := by
      have : ∀ ys : List Val, (∀ y ∈ ys, validV y = true) → (encVs ys).length ≤ 203 * ys.length := by
        intro ys
        induction ys with
        | nil => intro _; simp [encVs]
        | cons y ys ih =>
          intro hy
          have h1 := (valid_parts (hy y (List.mem_cons_self ..))).2.2
          have h2 := ih fun z hz => hy z (List.mem_cons_of_mem _ hz)
          unfold encVs at h2 ⊢
          rw [List.flatMap_cons, List.length_append, List.length_cons]
          omega
      exact this xs h.1
    have := encI_length xs.length
    unfold encR
    rw [List.length_append]
    omega

theorem lawRows_any (v u : Value) (l : List UInt8) (xs : List Val) (k : Int) (w : World) (hv : RdB w (· < w.heap.size) v l) (hu : RdV w (· < w.heap.size) u xs) (hok : ∀ x ∈ xs, goV x) (hl : l.length ≤ 140737488351232) :
    Calls Try.prog 9 #[v, u, .int .i64 k] w fun e w' => e = .returned (.bool true) ∧ Below w.heap.size w w' := by
  cases h : (xs.all validV && decide (xs.length ≤ 12))
  · exact lawRows_no v u l xs k w hv hu hok h
  · have hp := valid_all h hok
    exact lawRows_yes v u l xs k w hv hu hok hp.1 (by omega) h

set_option maxRecDepth 100000 in
theorem rows_lifted (os : Os) (started : os.Started) (H : Type) (enc : TypeId × Value → H) :
    ReturnsInHanded {} Try.checked os 9 .any (Rows.codecRowsSpec.pre6 enc Try.prog Try.f9 Rows.codecRowsRow.domain false) (Rows.codecRowsSpec.post enc Try.prog Try.f9 false true false false) := by
  refine returnsInHanded_of_change_sized (C := Try.checked) own_knob started (by kernel_rfl) Try.func9
    (ChangeSpec.witness6 (enc := enc) (C := Try.checked) false ⟨#[], #[.slice none 0 0, .slice none 0 0, .int .i64 0], []⟩ 8 (by kernel_rfl) (by kernel_rfl) (by kernel_rfl) (by kernel_rfl)) ?_
  intro W base args ds gs before hval hW _ hz _
  have hW' := hW
  obtain ⟨p, q, hA0, hV, rfl, hfz, hnd⟩ := hW
  have hA : DataW.TrodAll enc Try.prog W 0 (fun _ => true) true Try.f9.params.toList args.toList ds p := hA0
  have hval' : ∀ (j : Nat) t v, Try.f9.params[j]? = some t → args[j]? = some v → Value.okWide Try.prog W .any base t v := hval
  rw [Try.params9] at hA hval'
  obtain ⟨v0, vs0, d0, ds0, p0, q0, hargs, rfl, rfl, h0, r0⟩ := trodAll_cons hA
  obtain ⟨v1, vs1, d1, ds1, p1, q1, rfl, rfl, rfl, h1, r1⟩ := trodAll_cons r0
  obtain ⟨v2, vs2, d2, ds2, p2, q2, rfl, rfl, rfl, h2, r2⟩ := trodAll_cons r1
  obtain ⟨rfl, rfl, rfl⟩ := trodAll_nil r2
  obtain rfl : args = #[v0, v1, v2] := by cases args; simp_all
  obtain ⟨l0, hl0, hd0⟩ := open_B (hval' 0 22 v0 rfl rfl) h0
  obtain ⟨xs1, hr1, hok1, hd1⟩ := open_R (hval' 1 30 v1 rfl rfl) h1
  obtain ⟨n2, rfl, rfl, rfl, w2⟩ := open_int Try.underlying3 (hval' 2 3 v2 rfl rfl) h2
  have len0 : l0.length ≤ 140737488351232 := by
    rcases hd0 with ⟨_, rfl⟩ | ⟨el, sp, rfl, he⟩
    · simp
    · have := sized_slice hz (j := 0) (t := 22) (e := 5) rfl rfl Try.underlying22
      have := lenB this
      omega
  refine (lawRows_any v0 v1 l0 xs1 n2 W hl0 hr1 hok1 len0).mono fun e W' ⟨he, hb⟩ => ?_
  subst he
  exact ⟨_, rfl, law_post laid_out (tb := 4) (by kernel_rfl) rfl (by kernel_rfl) Try.underlying4 hW' rfl hb⟩

theorem rows_holds : Rows.CodecRowsSaid :=
  OpenClaim.holds_of_wide 9 Try.f9 rfl rfl rfl rfl rfl rfl rfl ⟨rfl, rfl, rfl, rfl, rfl⟩ rfl rfl rfl rfl rfl (by kernel_rfl) Try.func9 (by kernel_rfl)
    (of_decide_eq_true (by kernel_rfl)) (by unfold Func.isWrapper; first | (rw [if_pos (by decide +kernel)]; kernel_rfl) | (rw [if_neg (by decide +kernel)]; exact ⟨rfl, rfl⟩))
    (fun os started H enc _ => rows_lifted os started H enc)
#print axioms rows_holds
end Go.Proofs.Ythfclmkeadpcbaa
