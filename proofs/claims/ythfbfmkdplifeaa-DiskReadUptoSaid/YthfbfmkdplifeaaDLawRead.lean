/-
 LawRead
-/
import Derived.Test.YthfbfmkdplifeaaDFileH
import Derived.Test.YthfbfmkdplifeaaDRdB
namespace Go.Proofs.Ythfbfmkdplifeaa
open Go.ChangeShapes Go.WideShapes Go.ChangeAt Go.RowKit Go.Lib
set_option maxRecDepth 100000 in
theorem read_lifted (os : Os) (started : os.Started) (H : Type) (enc : TypeId × Value → H) (F : Stop.Interp) :
  ReturnsInHanded {} Try.checked os 3 .any ((Rows.OpenSpec.upto Rows.diskReadSpec).pre6 enc Try.prog Try.f3 Rows.diskReadUptoRow.domain false) (((Rows.OpenSpec.upto Rows.diskReadSpec).at F).post enc Try.prog Try.f3 false true false false) := by
 refine returnsInHanded_of_cond (C := Try.checked) (s := Rows.OpenSpec.upto Rows.diskReadSpec) (k := Rows.uptoSmall) rfl own_knob started (by kernel_rfl) Try.func3
  (OpenSpec.witness (enc := enc) (C := Try.checked) (s := Rows.OpenSpec.upto Rows.diskReadSpec) (k := Rows.uptoSmall) rfl false ⟨#[], #[.slice none 0 0, .slice none 0 0, .string ⟨#[]⟩], []⟩ 8 (by kernel_rfl) (by kernel_rfl) (by kernel_rfl)
   (x := ([.nil, .nil, .lit (.string [])], [], [])) (by kernel_rfl) rfl (by kernel_rfl)) ?_
 intro W base args ds gs before hval hW _ hk _
 have hW' := hW
 obtain ⟨p, q, hA0, hV, rfl, hfz, hnd⟩ := hW
 have hA : DataW.TrodAll enc Try.prog W 0 (fun _ => true) true Try.f3.params.toList args.toList ds p := hA0
 have hval' : ∀ (j : Nat) t v, Try.f3.params[j]? = some t → args[j]? = some v → Value.okWide Try.prog W .any base t v := hval
 rw [Try.params3] at hA hval'
 obtain ⟨v0, vs0, d0, ds0, p0, q0, hargs, rfl, rfl, h0, r0⟩ := trodAll_cons hA
 obtain ⟨v1, vs1, d1, ds1, p1, q1, rfl, rfl, rfl, h1, r1⟩ := trodAll_cons r0
 obtain ⟨v2, vs2, d2, ds2, p2, q2, rfl, rfl, rfl, h2, r2⟩ := trodAll_cons r1
 obtain ⟨rfl, rfl, rfl⟩ := trodAll_nil r2
 obtain rfl : args = #[v0, v1, v2] := by cases args; simp_all
 obtain ⟨fl, hl, hnl, hd⟩ : ∃ fl : FL, @FlsRd ⟨⟨0⟩⟩ W.heap.size W v0 fl ∧ (∀ p ∈ fl, p.1.length ≤ maxLen) ∧ flsum fl + fl.length + 1 ≤ Rows.uptoBulk d0 := by
  letI : Inhabited Nb := ⟨⟨0⟩⟩
  exact open_files (hval' 0 22 v0 rfl rfl) h0 rfl
 obtain ⟨los, ho, hno, hdo⟩ := open_ops (hval' 1 23 v1 rfl rfl) h1
 obtain ⟨sn, rfl⟩ := okWide_string Try.underlying9 (hval' 2 9 v2 rfl rfl)
 obtain ⟨nm, ⟨hnm1, hnm⟩, _⟩ := (opn_str (enc := enc) (w := W) Try.underlying9).arg h2
 obtain rfl : sn = strB nm := by simpa [Value.cells] using hnm1
 have hs' := bulk_two hk
 refine (lawRead_any v0 v1 nm fl los W hl ho (by omega) hnl hno hnm).mono fun e W' ⟨he, hb⟩ => ?_
 subst he
 exact ⟨_, rfl, law_post laid_out (tb := 4) (by kernel_rfl) rfl (by kernel_rfl) Try.underlying4 hW' rfl hb⟩
theorem read_holds : Rows.DiskReadUptoSaid :=
 OpenClaim.holds_of_cond 3 Try.f3 rfl rfl rfl rfl rfl rfl rfl ⟨rfl, rfl, rfl, rfl, rfl⟩ rfl rfl rfl rfl rfl (by kernel_rfl) Try.func3 (by kernel_rfl)
  (of_decide_eq_true (by kernel_rfl)) (by unfold Func.isWrapper; first | (rw [if_pos (by decide +kernel)]; kernel_rfl) | (rw [if_neg (by decide +kernel)]; exact ⟨rfl, rfl⟩))
  (fun os started H enc _ F => read_lifted os started H enc F)
#print axioms read_holds
end Go.Proofs.Ythfbfmkdplifeaa
