/-
  For every slice of bytes b, every value v and every integer at, CodecValues returns true and changes nothing that was there. No condition.
-/
import Derived.Test.YthfclmkeadpcbaaLawValuesA
import Derived.Test.YthfclmkeadpcbaaLawValuesB
namespace Go.Proofs.Ythfclmkeadpcbaa
open Go.ChangeShapes Go.WideShapes Go.ChangeAt Go.RowKit Go.Lib

theorem valid_parts {kd i : Int} {s : ByteArray} (h : validV ⟨kd, i, s⟩ = true) : (kd = 3 → i = 0 ∨ i = 1) ∧ s.size ≤ 200 := by
  have e : s.data.toList = [] → s.size = 0 := fun h => by rw [← str_len, h]; rfl
  unfold validV at h
  simp only at h
  split at h
  · simp at h; have := e (by simpa using h.2); omega
  · split at h
    · simp at h; have := e (by simpa using h.2); omega
    · split at h
      · simp at h; omega
      · split at h
        · simp at h; have := e (by simpa using h.2); omega
        · cases h

theorem lawValues_any (v : Value) (l : List UInt8) (kd i : Int) (s : ByteArray) (k : Int) (w : World) (i1 : -9223372036854775808 ≤ i) (i2 : i ≤ 9223372036854775807) (hs : s.size ≤ maxLen)
    (hv : RdB w (· < w.heap.size) v l) (hl : l.length ≤ 140737488353000) :
    Calls Try.prog 8 #[v, .agg #[.int .i64 kd, .int .i64 i, .string s], .int .i64 k] w fun e w' => e = .returned (.bool true) ∧ Below w.heap.size w w' := by
  cases h : validV ⟨kd, i, s⟩
  · exact lawValues_no v l kd i s k w hs hv h
  · exact lawValues_yes v l kd i s k w i1 i2 hs (valid_parts h).1 (valid_parts h).2 hv hl h

set_option maxRecDepth 100000 in
theorem values_lifted (os : Os) (started : os.Started) (H : Type) (enc : TypeId × Value → H) :
    ReturnsInHanded {} Try.checked os 8 .any (Rows.codecValuesSpec.pre6 enc Try.prog Try.f8 Rows.codecValuesRow.domain false) (Rows.codecValuesSpec.post enc Try.prog Try.f8 false true false false) := by
  refine returnsInHanded_of_change_sized (C := Try.checked) own_knob started (by kernel_rfl) Try.func8
    (ChangeSpec.witness6 (enc := enc) (C := Try.checked) false ⟨#[], #[.slice none 0 0, .agg #[.int .i64 0, .int .i64 0, .string .empty], .int .i64 0], []⟩ 8 (by kernel_rfl) (by kernel_rfl) (by kernel_rfl) (by kernel_rfl)) ?_
  intro W base args ds gs before hval hW _ hz _
  have hW' := hW
  obtain ⟨p, q, hA0, hV, rfl, hfz, hnd⟩ := hW
  have hA : DataW.TrodAll enc Try.prog W 0 (fun _ => true) true Try.f8.params.toList args.toList ds p := hA0
  have hval' : ∀ (j : Nat) t v, Try.f8.params[j]? = some t → args[j]? = some v → Value.okWide Try.prog W .any base t v := hval
  rw [Try.params8] at hA hval'
  obtain ⟨v0, vs0, d0, ds0, p0, q0, hargs, rfl, rfl, h0, r0⟩ := trodAll_cons hA
  obtain ⟨v1, vs1, d1, ds1, p1, q1, rfl, rfl, rfl, h1, r1⟩ := trodAll_cons r0
  obtain ⟨v2, vs2, d2, ds2, p2, q2, rfl, rfl, rfl, h2, r2⟩ := trodAll_cons r1
  obtain ⟨rfl, rfl, rfl⟩ := trodAll_nil r2
  obtain rfl : args = #[v0, v1, v2] := by cases args; simp_all
  obtain ⟨l0, hl0, hd0⟩ := open_B (hval' 0 22 v0 rfl rfl) h0
  obtain ⟨k1, i1, s1, rfl, bi1, bs1⟩ := open_V (hval' 1 37 v1 rfl rfl) h1
  obtain ⟨n2, rfl, rfl, rfl, w2⟩ := open_int Try.underlying3 (hval' 2 3 v2 rfl rfl) h2
  have len0 : l0.length ≤ 140737488351232 := by
    rcases hd0 with ⟨_, rfl⟩ | ⟨el, sp, rfl, he⟩
    · simp
    · have := sized_slice hz (j := 0) (t := 22) (e := 5) rfl rfl Try.underlying22
      have := lenB this
      omega
  refine (lawValues_any v0 l0 k1 i1 s1 n2 W bi1.1 bi1.2 bs1 hl0 (by omega)).mono fun e W' ⟨he, hb⟩ => ?_
  subst he
  exact ⟨_, rfl, law_post laid_out (tb := 4) (by kernel_rfl) rfl (by kernel_rfl) Try.underlying4 hW' rfl hb⟩

theorem values_holds : Rows.CodecValuesSaid :=
  OpenClaim.holds_of_wide 8 Try.f8 rfl rfl rfl rfl rfl rfl rfl ⟨rfl, rfl, rfl, rfl, rfl⟩ rfl rfl rfl rfl rfl (by kernel_rfl) Try.func8 (by kernel_rfl)
    (of_decide_eq_true (by kernel_rfl)) (by unfold Func.isWrapper; first | (rw [if_pos (by decide +kernel)]; kernel_rfl) | (rw [if_neg (by decide +kernel)]; exact ⟨rfl, rfl⟩))
    (fun os started H enc _ => values_lifted os started H enc)
#print axioms values_holds
end Go.Proofs.Ythfclmkeadpcbaa
