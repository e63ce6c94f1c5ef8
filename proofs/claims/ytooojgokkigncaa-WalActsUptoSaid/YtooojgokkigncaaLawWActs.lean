/-
  For every list of files, every name and every list of operations that together hold at most 1048576 values and letters, WalActs returns true and changes nothing that was there.
-/
import Derived.Test.YtooojgokkigncaaFileH
import Derived.Test.YtooojgokkigncaaRtF
import Derived.Test.YtooojgokkigncaaRtG
namespace Go.Proofs.Ytooojgokkigncaa
open Go.ChangeShapes Go.WideShapes Go.ChangeAt Go.RowKit Go.Lib

set_option maxRecDepth 100000 in
theorem wacts_lifted (os : Os) (started : os.Started) (H : Type) (enc : TypeId × Value → H) (F : Stop.Interp) :
    ReturnsInHanded {} Try.checked os 11 .any ((Rows.OpenSpec.upto Rows.walActsSpec).pre6 enc Try.prog Try.f11 Rows.walActsUptoRow.domain false) (((Rows.OpenSpec.upto Rows.walActsSpec).at F).post enc Try.prog Try.f11 false true false false) := by
  refine returnsInHanded_of_cond (C := Try.checked) (s := Rows.OpenSpec.upto Rows.walActsSpec) (k := Rows.uptoSmall) rfl own_knob started (by kernel_rfl) Try.func11
    (OpenSpec.witness (enc := enc) (C := Try.checked) (s := Rows.OpenSpec.upto Rows.walActsSpec) (k := Rows.uptoSmall) rfl false ⟨#[], #[.slice none 0 0, .string ⟨#[]⟩, .slice none 0 0], []⟩ 8 (by kernel_rfl) (by kernel_rfl) (by kernel_rfl)
      (x := ([.nil, .lit (.string []), .nil], [], [])) (by kernel_rfl) rfl (by kernel_rfl)) ?_
  intro W base args ds gs before hval hW _ hk _
  have hW' := hW
  obtain ⟨p, q, hA0, hV, rfl, hfz, hnd⟩ := hW
  have hA : DataW.TrodAll enc Try.prog W 0 (fun _ => true) true Try.f11.params.toList args.toList ds p := hA0
  have hval' : ∀ (j : Nat) t v, Try.f11.params[j]? = some t → args[j]? = some v → Value.okWide Try.prog W .any base t v := hval
  rw [Try.params11] at hA hval'
  obtain ⟨v0, vs0, d0, ds0, p0, q0, hargs, rfl, rfl, h0, r0⟩ := trodAll_cons hA
  obtain ⟨v1, vs1, d1, ds1, p1, q1, rfl, rfl, rfl, h1, r1⟩ := trodAll_cons r0
  obtain ⟨v2, vs2, d2, ds2, p2, q2, rfl, rfl, rfl, h2, r2⟩ := trodAll_cons r1
  obtain ⟨rfl, rfl, rfl⟩ := trodAll_nil r2
  obtain rfl : args = #[v0, v1, v2] := by cases args; simp_all
  obtain ⟨fl, hl, hnl, hd⟩ := open_files (hval' 0 36 v0 rfl rfl) h0
  obtain ⟨sn, rfl⟩ := okWide_string Try.underlying9 (hval' 1 9 v1 rfl rfl)
  obtain ⟨nm, ⟨hnm1, hnm⟩, _⟩ := (opn_str (enc := enc) (w := W) Try.underlying9).arg h1
  obtain rfl : sn = strB nm := by simpa [Value.cells] using hnm1
  obtain ⟨vos, hvo, hsv⟩ := open_vops (hval' 2 67 v2 rfl rfl) h2
  have hs' := bulk_three hk
  refine (lawWActs_any v0 v2 fl nm vos W hl hvo (by omega) hnl hnm).mono fun e W' ⟨he, hb⟩ => ?_
  subst he
  exact ⟨_, rfl, law_post laid_out (tb := 4) (by kernel_rfl) rfl (by kernel_rfl) Try.underlying4 hW' rfl hb⟩

theorem wacts_holds : Rows.WalActsUptoSaid :=
  OpenClaim.holds_of_cond 11 Try.f11 rfl rfl rfl rfl rfl rfl rfl ⟨rfl, rfl, rfl, rfl, rfl⟩ rfl rfl rfl rfl rfl (by kernel_rfl) Try.func11 (by kernel_rfl)
    (of_decide_eq_true (by kernel_rfl)) (by unfold Func.isWrapper; first | (rw [if_pos (by decide +kernel)]; kernel_rfl) | (rw [if_neg (by decide +kernel)]; exact ⟨rfl, rfl⟩))
    (fun os started H enc _ F => wacts_lifted os started H enc F)
#print axioms wacts_holds
end Go.Proofs.Ytooojgokkigncaa
