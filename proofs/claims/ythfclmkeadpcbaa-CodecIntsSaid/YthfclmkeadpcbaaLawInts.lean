/-
  For every slice of bytes b and all integers n and at, CodecInts returns true and changes nothing that was there. No condition.
-/
import Derived.Test.YthfclmkeadpcbaaLaw
import Derived.Test.YthfclmkeadpcbaaCodecJ
namespace Go.Proofs.Ythfclmkeadpcbaa
open Go.ChangeShapes Go.WideShapes Go.ChangeAt Go.RowKit Go.Lib

set_option maxRecDepth 100000 in
set_option maxHeartbeats 1000000 in
theorem lawInts_any (v : Value) (l : List UInt8) (n k : Int) (w : World) (h1 : -9223372036854775808 ≤ n) (h2 : n ≤ 9223372036854775807)
    (hv : RdB w (· < w.heap.size) v l) (hl : l.length ≤ 140737488355000) :
    Calls Try.prog 3 #[v, .int .i64 n, .int .i64 k] w fun e w' => e = .returned (.bool true) ∧ Below w.heap.size w w' := by
  have hI := int_any _ v l k w hv
  have hR := refInt_any _ v l k w hv
  generalize decI l k = r at *
  obtain ⟨a, b, c⟩ := r
  have HI := Lib.hid hI
  have HR := Lib.hid hR
  clear hI hR
  go_enter Try.func3, Try.ntmps3
  go_wp2_with fail
  refine HI.out.mono ?_
  rintro _ _ ⟨rfl, rfl⟩
  go_wp2_with fail
  refine HR.out.mono ?_
  rintro _ _ ⟨rfl, rfl⟩
  clear HI HR
  go_wp2_with fail
  (with_reducible refine (putInt_any v l n _ h1 h2 hv hl).mono ?_)
  rintro e w1 ⟨v1, rfl, ho1, hb1⟩
  go_wp2_with fail
  (with_reducible refine (refPutInt_any v l n _ h1 h2 (hv.below hb1) hl).mono ?_)
  rintro e w2 ⟨v2, rfl, ho2, hb2⟩
  go_wp2_with fail
  (with_reducible refine (equal_any v1 v2 (l ++ encI n) (l ++ encI n) _ _ _ (ho1.rd.below hb2) ho2.rd).mono ?_)
  rintro e w3 ⟨rfl, rfl⟩
  rw [beq_self_eq_true]
  go_wp2_with fail
  (with_reducible refine (works_any _).mono ?_)
  rintro e w3 ⟨rfl, hb3⟩
  go_wp2_with fail
  go_ret
  exact ⟨rfl, hb1.trans ((hb2.trans (hb3.mono hb2.size)).mono hb1.size)⟩

set_option maxRecDepth 100000 in
theorem ints_lifted (os : Os) (started : os.Started) (H : Type) (enc : TypeId × Value → H) :
    ReturnsInHanded {} Try.checked os 3 .any (Rows.codecIntsSpec.pre6 enc Try.prog Try.f3 Rows.codecIntsRow.domain false) (Rows.codecIntsSpec.post enc Try.prog Try.f3 false true false false) := by
  refine returnsInHanded_of_change_sized (C := Try.checked) own_knob started (by kernel_rfl) Try.func3
    (ChangeSpec.witness6 (enc := enc) (C := Try.checked) false ⟨#[], #[.slice none 0 0, .int .i64 0, .int .i64 0], []⟩ 8 (by kernel_rfl) (by kernel_rfl) (by kernel_rfl) (by kernel_rfl)) ?_
  intro W base args ds gs before hval hW _ hz _
  have hW' := hW
  obtain ⟨p, q, hA0, hV, rfl, hfz, hnd⟩ := hW
  have hA : DataW.TrodAll enc Try.prog W 0 (fun _ => true) true Try.f3.params.toList args.toList ds p := hA0
  have hval' : ∀ (j : Nat) t v, Try.f3.params[j]? = some t → args[j]? = some v → Value.okWide Try.prog W .any base t v := hval
  rw [Try.params3] at hA hval'
  obtain ⟨v0, vs0, d0, ds0, p0, q0, hargs, rfl, rfl, h0, r0⟩ := trodAll_cons hA
  obtain ⟨v1, vs1, d1, ds1, p1, q1, rfl, rfl, rfl, h1, r1⟩ := trodAll_cons r0
  obtain ⟨v2, vs2, d2, ds2, p2, q2, rfl, rfl, rfl, h2, r2⟩ := trodAll_cons r1
  obtain ⟨rfl, rfl, rfl⟩ := trodAll_nil r2
  obtain rfl : args = #[v0, v1, v2] := by cases args; simp_all
  obtain ⟨l, hl, hd⟩ := open_B (hval' 0 22 v0 rfl rfl) h0
  obtain ⟨n, rfl, rfl, rfl, w1⟩ := open_int Try.underlying3 (hval' 1 3 v1 rfl rfl) h1
  obtain ⟨k, rfl, rfl, rfl, w2⟩ := open_int Try.underlying3 (hval' 2 3 v2 rfl rfl) h2
  have hlen : l.length ≤ 140737488355000 := by
    rcases hd with ⟨_, rfl⟩ | ⟨el, sp, rfl, he⟩
    · simp
    · have := sized_slice hz (j := 0) (t := 22) (e := 5) rfl rfl Try.underlying22
      have := lenB this
      omega
  refine (lawInts_any v0 l n k W (int_bd w1).1 (int_bd w1).2 hl hlen).mono fun e W' ⟨he, hb⟩ => ?_
  subst he
  exact ⟨_, rfl, law_post laid_out (tb := 4) (by kernel_rfl) rfl (by kernel_rfl) Try.underlying4 hW' rfl hb⟩

theorem ints_holds : Rows.CodecIntsSaid :=
  OpenClaim.holds_of_wide 3 Try.f3 rfl rfl rfl rfl rfl rfl rfl ⟨rfl, rfl, rfl, rfl, rfl⟩ rfl rfl rfl rfl rfl (by kernel_rfl) Try.func3 (by kernel_rfl)
    (of_decide_eq_true (by kernel_rfl)) (by unfold Func.isWrapper; first | (rw [if_pos (by decide +kernel)]; kernel_rfl) | (rw [if_neg (by decide +kernel)]; exact ⟨rfl, rfl⟩))
    (fun os started H enc _ => ints_lifted os started H enc)
#print axioms ints_holds
end Go.Proofs.Ythfclmkeadpcbaa
