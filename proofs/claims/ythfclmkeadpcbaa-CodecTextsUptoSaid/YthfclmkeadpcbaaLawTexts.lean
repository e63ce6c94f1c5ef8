/-
  For every slice of bytes b, every string s and all integers at and most that together hold at most 1048576 values and letters, CodecTexts returns true and changes nothing that was there.
-/
import Derived.Test.YthfclmkeadpcbaaLaw2
import Derived.Test.YthfclmkeadpcbaaCodecJ
namespace Go.Proofs.Ythfclmkeadpcbaa
open Go.ChangeShapes Go.WideShapes Go.ChangeAt Go.RowKit Go.Lib
open Go.ChangeMaps (open_string)

set_option maxRecDepth 100000 in
set_option maxHeartbeats 1000000 in
theorem lawTexts_any (v : Value) (l : List UInt8) (s : ByteArray) (k most : Int) (w : World)
    (hv : RdB w (· < w.heap.size) v l) (hl : l.length + s.size ≤ 140737488355000) :
    Calls Try.prog 6 #[v, .string s, .int .i64 k, .int .i64 most] w fun e w' => e = .returned (.bool true) ∧ Below w.heap.size w w' := by
  have hI := text_any _ v l k most w hv
  have hR := refText_any _ v l k most w hv
  generalize decT l k most = r at *
  obtain ⟨a, b, c⟩ := r
  have HI := Lib.hid hI
  have HR := Lib.hid hR
  clear hI hR
  go_enter Try.func6, Try.ntmps6
  go_wp2_with fail
  refine HI.out.mono ?_
  rintro _ _ ⟨rfl, rfl⟩
  go_wp2_with fail
  refine HR.out.mono ?_
  rintro _ _ ⟨rfl, rfl⟩
  clear HI HR
  go_wp2_with fail
  (with_reducible refine (putText_any v l s _ hv hl).mono ?_)
  rintro e w1 ⟨v1, rfl, ho1, hb1⟩
  go_wp2_with fail
  (with_reducible refine (refPutText_any v l s _ (hv.below hb1) hl).mono ?_)
  rintro e w2 ⟨v2, rfl, ho2, hb2⟩
  go_wp2_with fail
  (with_reducible refine (equal_any v1 v2 _ _ _ _ _ (ho1.rd.below hb2) ho2.rd).mono ?_)
  rintro e w3 ⟨rfl, rfl⟩
  rw [beq_self_eq_true]
  go_wp2_with fail
  (with_reducible refine (works_any _).mono ?_)
  rintro e w3 ⟨rfl, hb3⟩
  go_wp2_with fail
  go_ret
  exact ⟨rfl, hb1.trans ((hb2.trans (hb3.mono hb2.size)).mono hb1.size)⟩

set_option maxRecDepth 100000 in
theorem texts_lifted (os : Os) (started : os.Started) (H : Type) (enc : TypeId × Value → H) (F : Stop.Interp) :
    ReturnsInHanded {} Try.checked os 6 .any ((Rows.OpenSpec.upto Rows.codecTextsSpec).pre6 enc Try.prog Try.f6 Rows.codecTextsUptoRow.domain false) (((Rows.OpenSpec.upto Rows.codecTextsSpec).at F).post enc Try.prog Try.f6 false true false false) := by
  refine returnsInHanded_of_cond (C := Try.checked) (s := Rows.OpenSpec.upto Rows.codecTextsSpec) (k := Rows.uptoSmall) rfl own_knob started (by kernel_rfl) Try.func6
    (OpenSpec.witness (enc := enc) (C := Try.checked) (s := Rows.OpenSpec.upto Rows.codecTextsSpec) (k := Rows.uptoSmall) rfl false ⟨#[], #[.slice none 0 0, .string .empty, .int .i64 0, .int .i64 0], []⟩ 8 (by kernel_rfl) (by kernel_rfl) (by kernel_rfl)
      (x := ([.nil, .lit (.string []), .lit (.int .i64 0), .lit (.int .i64 0)], [], [])) (by kernel_rfl) rfl (by kernel_rfl)) ?_
  intro W base args ds gs before hval hW _ hk _
  have hW' := hW
  obtain ⟨p, q, hA0, hV, rfl, hfz, hnd⟩ := hW
  have hA : DataW.TrodAll enc Try.prog W 0 (fun _ => true) true Try.f6.params.toList args.toList ds p := hA0
  have hval' : ∀ (j : Nat) t v, Try.f6.params[j]? = some t → args[j]? = some v → Value.okWide Try.prog W .any base t v := hval
  rw [Try.params6] at hA hval'
  obtain ⟨v0, vs0, d0, ds0, p0, q0, hargs, rfl, rfl, h0, r0⟩ := trodAll_cons hA
  obtain ⟨v1, vs1, d1, ds1, p1, q1, rfl, rfl, rfl, h1, r1⟩ := trodAll_cons r0
  obtain ⟨v2, vs2, d2, ds2, p2, q2, rfl, rfl, rfl, h2, r2⟩ := trodAll_cons r1
  obtain ⟨v3, vs3, d3, ds3, p3, q3, rfl, rfl, rfl, h3, r3⟩ := trodAll_cons r2
  obtain ⟨rfl, rfl, rfl⟩ := trodAll_nil r3
  obtain rfl : args = #[v0, v1, v2, v3] := by cases args; simp_all
  obtain ⟨l, hl, hd⟩ := open_B (hval' 0 22 v0 rfl rfl) h0
  obtain ⟨s, rfl, rfl, rfl, hs⟩ := open_string Try.underlying9 (hval' 1 9 v1 rfl rfl) h1
  obtain ⟨k, rfl, rfl, rfl, w2⟩ := open_int Try.underlying3 (hval' 2 3 v2 rfl rfl) h2
  obtain ⟨m, rfl, rfl, rfl, w3⟩ := open_int Try.underlying3 (hval' 3 3 v3 rfl rfl) h3
  have hs' := bulk_arg hk (List.mem_cons_of_mem _ (List.mem_cons_self ..))
  have hs'' := bulk_string (H := H) s.data.toList
  rw [str_len] at hs''
  have hlen : l.length ≤ 1048576 := by
    rcases hd with ⟨_, rfl⟩ | ⟨el, sp, rfl, he⟩
    · simp
    · have h1 := bulk_arg hk (List.mem_cons_self ..)
      have h2 := bulk_slice el sp
      omega
  refine (lawTexts_any v0 l s k m W hl (by omega)).mono fun e W' ⟨he, hb⟩ => ?_
  subst he
  exact ⟨_, rfl, law_post laid_out (tb := 4) (by kernel_rfl) rfl (by kernel_rfl) Try.underlying4 hW' rfl hb⟩

theorem texts_holds : Rows.CodecTextsUptoSaid :=
  OpenClaim.holds_of_cond 6 Try.f6 rfl rfl rfl rfl rfl rfl rfl ⟨rfl, rfl, rfl, rfl, rfl⟩ rfl rfl rfl rfl rfl (by kernel_rfl) Try.func6 (by kernel_rfl)
    (of_decide_eq_true (by kernel_rfl)) (by unfold Func.isWrapper; first | (rw [if_pos (by decide +kernel)]; kernel_rfl) | (rw [if_neg (by decide +kernel)]; exact ⟨rfl, rfl⟩))
    (fun os started H enc _ F => texts_lifted os started H enc F)
#print axioms texts_holds
end Go.Proofs.Ythfclmkeadpcbaa
