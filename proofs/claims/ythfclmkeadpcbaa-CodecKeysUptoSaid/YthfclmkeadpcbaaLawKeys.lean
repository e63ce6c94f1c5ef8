/-
  For all rows of values a and b that together hold at most 1048576 values and letters, CodecKeys returns true and changes nothing that was there.
-/
import Derived.Test.YthfclmkeadpcbaaLawKeysA
import Derived.Test.YthfclmkeadpcbaaLaw3
namespace Go.Proofs.Ythfclmkeadpcbaa
open Go.ChangeShapes Go.WideShapes Go.ChangeAt Go.RowKit Go.Lib

theorem keyV_len {x : Val} (h : validV x = true) : (keyV x).length ≤ 203 := by
  rcases valid_forms h with ⟨k, i, t⟩ | ⟨k, i, i', t⟩ | ⟨k, i, z, t⟩ | ⟨k, i, t⟩
  · rw [keyV0 k]; simp
  · rw [keyV1 k]; simp [be8]
  · rw [keyV2 k, List.length_cons, List.length_append, str_len]; simp; omega
  · rw [keyV3 k]; simp
theorem keyR_len : ∀ {xs : List Val}, xs.all validV = true → (keyR xs).length ≤ 203 * xs.length
  | [], _ => by simp [keyR]
  | x :: xs, h => by
    rw [List.all_cons, Bool.and_eq_true] at h
    have h1 := keyV_len h.1
    have h2 := keyR_len h.2
    have ex : keyR (x :: xs) = keyV x ++ keyR xs := by rw [keyR, List.flatMap_cons]; rfl
    rw [ex, List.length_append, List.length_cons]
    omega
theorem valid_text {x : Val} (h : validV x = true) : x.text.size ≤ 200 := by
  have e : x.text.data.toList = [] → x.text.size = 0 := fun h => by rw [← str_len, h]; rfl
  rcases valid_forms h with ⟨k, i, t⟩ | ⟨k, i, i', t⟩ | ⟨k, i, z, t⟩ | ⟨k, i, t⟩
  · have := e t; omega
  · have := e t; omega
  · exact z
  · have := e t; omega
theorem valid_ok {xs : List Val} (h : xs.all validV = true) (hg : ∀ x ∈ xs, goV x) : (∀ x ∈ xs, okV x) ∧ ∀ x ∈ xs, x.kind = 3 → x.int = 0 ∨ x.int = 1 := by
  rw [List.all_eq_true] at h
  refine ⟨fun x hx => ?_, fun x hx hk => ?_⟩
  · have := valid_text (h x hx)
    obtain ⟨a, b, _⟩ := hg x hx
    exact ⟨a, b, by omega⟩
  · rcases valid_forms (h x hx) with ⟨k, i, t⟩ | ⟨k, i, i', t⟩ | ⟨k, i, z, t⟩ | ⟨k, i, t⟩
    · omega
    · omega
    · omega
    · exact i
theorem lawKeys_any (v u : Value) (xs ys : List Val) (w : World) (hv : RdV w (· < w.heap.size) v xs) (hu : RdV w (· < w.heap.size) u ys) (hg : ∀ x ∈ xs, goV x) (hg' : ∀ x ∈ ys, goV x) (n1 : xs.length ≤ 1048576) (n2 : ys.length ≤ 1048576) :
    Calls Try.prog 4 #[v, u] w fun e w' => e = .returned (.bool true) ∧ Below w.heap.size w w' := by
  cases h : xs.all validV
  · exact lawKeys_no1 v u xs w hv hg h
  · cases h' : ys.all validV
    · exact lawKeys_no2 v u xs ys w hv hu hg hg' h h'
    · have a := valid_ok h hg
      have b := valid_ok h' hg'
      have l1 := keyR_len h
      have l2 := keyR_len h'
      exact lawKeys_yes v u xs ys w hv hu hg hg' h h' a.1 b.1 (fun x hx => (List.mem_append.1 hx).elim (a.1 x) (b.1 x)) a.2 n1 n2 (by omega) (by omega) (by rw [key_app, List.length_append]; omega)

set_option maxRecDepth 100000 in
theorem keys_lifted (os : Os) (started : os.Started) (H : Type) (enc : TypeId × Value → H) (F : Stop.Interp) :
    ReturnsInHanded {} Try.checked os 4 .any ((Rows.OpenSpec.upto Rows.codecKeysSpec).pre6 enc Try.prog Try.f4 Rows.codecKeysUptoRow.domain false) (((Rows.OpenSpec.upto Rows.codecKeysSpec).at F).post enc Try.prog Try.f4 false true false false) := by
  refine returnsInHanded_of_cond (C := Try.checked) (s := Rows.OpenSpec.upto Rows.codecKeysSpec) (k := Rows.uptoSmall) rfl own_knob started (by kernel_rfl) Try.func4
    (OpenSpec.witness (enc := enc) (C := Try.checked) (s := Rows.OpenSpec.upto Rows.codecKeysSpec) (k := Rows.uptoSmall) rfl false ⟨#[], #[.slice none 0 0, .slice none 0 0], []⟩ 8 (by kernel_rfl) (by kernel_rfl) (by kernel_rfl)
      (x := ([.nil, .nil], [], [])) (by kernel_rfl) rfl (by kernel_rfl)) ?_
  intro W base args ds gs before hval hW _ hk _
  have hW' := hW
  obtain ⟨p, q, hA0, hV, rfl, hfz, hnd⟩ := hW
  have hA : DataW.TrodAll enc Try.prog W 0 (fun _ => true) true Try.f4.params.toList args.toList ds p := hA0
  have hval' : ∀ (j : Nat) t v, Try.f4.params[j]? = some t → args[j]? = some v → Value.okWide Try.prog W .any base t v := hval
  rw [Try.params4] at hA hval'
  obtain ⟨v0, vs0, d0, ds0, p0, q0, hargs, rfl, rfl, h0, r0⟩ := trodAll_cons hA
  obtain ⟨v1, vs1, d1, ds1, p1, q1, rfl, rfl, rfl, h1, r1⟩ := trodAll_cons r0
  obtain ⟨rfl, rfl, rfl⟩ := trodAll_nil r1
  obtain rfl : args = #[v0, v1] := by cases args; simp_all
  obtain ⟨xs0, hr0, hok0, hd0⟩ := open_R (hval' 0 30 v0 rfl rfl) h0
  obtain ⟨xs1, hr1, hok1, hd1⟩ := open_R (hval' 1 30 v1 rfl rfl) h1
  have len0 := bulk_row (bulk_arg hk (List.mem_cons_self ..)) hd0
  have len1 := bulk_row (bulk_arg hk (List.mem_cons_of_mem _ (List.mem_cons_self ..))) hd1
  refine (lawKeys_any v0 v1 xs0 xs1 W hr0 hr1 hok0 hok1 len0 len1).mono fun e W' ⟨he, hb⟩ => ?_
  subst he
  exact ⟨_, rfl, law_post laid_out (tb := 4) (by kernel_rfl) rfl (by kernel_rfl) Try.underlying4 hW' rfl hb⟩

theorem keys_holds : Rows.CodecKeysUptoSaid :=
  OpenClaim.holds_of_cond 4 Try.f4 rfl rfl rfl rfl rfl rfl rfl ⟨rfl, rfl, rfl, rfl, rfl⟩ rfl rfl rfl rfl rfl (by kernel_rfl) Try.func4 (by kernel_rfl)
    (of_decide_eq_true (by kernel_rfl)) (by unfold Func.isWrapper; first | (rw [if_pos (by decide +kernel)]; kernel_rfl) | (rw [if_neg (by decide +kernel)]; exact ⟨rfl, rfl⟩))
    (fun os started H enc _ F => keys_lifted os started H enc F)
#print axioms keys_holds
end Go.Proofs.Ythfclmkeadpcbaa
