/-
  For every slice of bytes b, every integer cut, every value v and every integer n, CodecSpare returns true and changes nothing that was there. No condition.
-/
import Derived.Test.YthfclmkeadpcbaaLawSpareA
import Derived.Test.YthfclmkeadpcbaaLawRows
namespace Go.Proofs.Ythfclmkeadpcbaa
open Go.ChangeShapes Go.WideShapes Go.ChangeAt Go.RowKit Go.Lib

set_option maxRecDepth 100000 in
set_option maxHeartbeats 2000000 in
theorem lawSpare_no (v : Value) (cut n kd i : Int) (s : ByteArray) (w : World) (hs : s.size ≤ maxLen) (hval : validV ⟨kd, i, s⟩ = false) :
    Calls Try.prog 5 #[v, .int .i64 cut, .agg #[.int .i64 kd, .int .i64 i, .string s], .int .i64 n] w fun e w' => e = .returned (.bool true) ∧ Below w.heap.size w w' := by
  have HV := Lib.hid hval
  clear hval
  go_enter Try.func5, Try.ntmps5
  go_wp2_with fail
  (with_reducible refine (refValidValue_any kd i s _ hs).mono ?_)
  rw [HV.out]
  rintro e w1 ⟨rfl, rfl⟩
  have hB1 := below2 (w := w) (.cells #[.int .i64 kd, .int .i64 i, .string s] 37) (.cells #[.int .i64 kd, .int .i64 i, .string s] 37)
  generalize (w.alloc (.cells #[.int .i64 kd, .int .i64 i, .string s] 37)).alloc (.cells #[.int .i64 kd, .int .i64 i, .string s] 37) = w1 at *
  go_wp2_with fail
  (with_reducible refine (works_any _).mono ?_)
  rintro e w9 ⟨rfl, hb9⟩
  go_wp2_with fail
  go_ret
  exact ⟨rfl, hB1.trans (hb9.mono hB1.size)⟩

theorem lawSpare_any (v : Value) (l : List UInt8) (cut n kd i : Int) (s : ByteArray) (w : World) (hv : RdB w (· < w.heap.size) v l) (hl : l.length ≤ 140737488351232)
    (n1 : -9223372036854775808 ≤ n) (n2 : n ≤ 9223372036854775807) (i1 : -9223372036854775808 ≤ i) (i2 : i ≤ 9223372036854775807) (hs : s.size ≤ maxLen) :
    Calls Try.prog 5 #[v, .int .i64 cut, .agg #[.int .i64 kd, .int .i64 i, .string s], .int .i64 n] w fun e w' => e = .returned (.bool true) ∧ Below w.heap.size w w' := by
  cases h : validV ⟨kd, i, s⟩
  · exact lawSpare_no v cut n kd i s w hs h
  · have hp := valid_all (xs := [⟨kd, i, s⟩]) (by simp [h]) (fun x hx => by
      obtain rfl : x = ⟨kd, i, s⟩ := by simpa using hx
      exact ⟨i1, i2, hs⟩)
    have hs2 := (valid_parts h).2.1
    obtain ⟨A, c, rfl, hc, _, _⟩ := hv.open_
    by_cases h1 : (l.length : Int) < cut
    · by_cases h2 : (0 : Int) < (l.length : Int)
      · exact lawSpare_high A c l cut n kd i s w hc hv hs hs2 hp.1 hp.2 hl n1 n2 i1 i2 h h1 (by omega)
      · exact lawSpare_none A c l cut n kd i s w hc hv hs hs2 hp.1 hp.2 hl n1 n2 i1 i2 h h1 h2
    · by_cases h2 : cut ≤ 0
      · exact lawSpare_low A c l cut n kd i s w hc hv hs hs2 hp.1 hp.2 hl n1 n2 i1 i2 h h2
      · exact lawSpare_mid A c l cut n kd i s w hc hv hs hs2 hp.1 hp.2 hl n1 n2 i1 i2 h cut.toNat (by omega) (by omega) (by omega)

set_option maxRecDepth 100000 in
theorem spare_lifted (os : Os) (started : os.Started) (H : Type) (enc : TypeId × Value → H) :
    ReturnsInHanded {} Try.checked os 5 .any (Rows.codecSpareSpec.pre6 enc Try.prog Try.f5 Rows.codecSpareRow.domain false) (Rows.codecSpareSpec.post enc Try.prog Try.f5 false true false false) := by
  refine returnsInHanded_of_change_sized (C := Try.checked) own_knob started (by kernel_rfl) Try.func5
    (ChangeSpec.witness6 (enc := enc) (C := Try.checked) false ⟨#[], #[.slice none 0 0, .int .i64 0, .agg #[.int .i64 0, .int .i64 0, .string .empty], .int .i64 0], []⟩ 8 (by kernel_rfl) (by kernel_rfl) (by kernel_rfl) (by kernel_rfl)) ?_
  intro W base args ds gs before hval hW _ hz _
  have hW' := hW
  obtain ⟨p, q, hA0, hV, rfl, hfz, hnd⟩ := hW
  have hA : DataW.TrodAll enc Try.prog W 0 (fun _ => true) true Try.f5.params.toList args.toList ds p := hA0
  have hval' : ∀ (j : Nat) t v, Try.f5.params[j]? = some t → args[j]? = some v → Value.okWide Try.prog W .any base t v := hval
  rw [Try.params5] at hA hval'
  obtain ⟨v0, vs0, d0, ds0, p0, q0, hargs, rfl, rfl, h0, r0⟩ := trodAll_cons hA
  obtain ⟨v1, vs1, d1, ds1, p1, q1, rfl, rfl, rfl, h1, r1⟩ := trodAll_cons r0
  obtain ⟨v2, vs2, d2, ds2, p2, q2, rfl, rfl, rfl, h2, r2⟩ := trodAll_cons r1
  obtain ⟨v3, vs3, d3, ds3, p3, q3, rfl, rfl, rfl, h3, r3⟩ := trodAll_cons r2
  obtain ⟨rfl, rfl, rfl⟩ := trodAll_nil r3
  obtain rfl : args = #[v0, v1, v2, v3] := by cases args; simp_all
  obtain ⟨l0, hl0, hd0⟩ := open_B (hval' 0 22 v0 rfl rfl) h0
  obtain ⟨n1, rfl, rfl, rfl, w1⟩ := open_int Try.underlying3 (hval' 1 3 v1 rfl rfl) h1
  obtain ⟨k2, i2, s2, rfl, bi2, bs2⟩ := open_V (hval' 2 37 v2 rfl rfl) h2
  obtain ⟨n3, rfl, rfl, rfl, w3⟩ := open_int Try.underlying3 (hval' 3 3 v3 rfl rfl) h3
  have len0 : l0.length ≤ 140737488351232 := by
    rcases hd0 with ⟨_, rfl⟩ | ⟨el, sp, rfl, he⟩
    · simp
    · have := sized_slice hz (j := 0) (t := 22) (e := 5) rfl rfl Try.underlying22
      have := lenB this
      omega
  refine (lawSpare_any v0 l0 n1 n3 k2 i2 s2 W hl0 len0 (int_bd w3).1 (int_bd w3).2 bi2.1 bi2.2 bs2).mono fun e W' ⟨he, hb⟩ => ?_
  subst he
  exact ⟨_, rfl, law_post laid_out (tb := 4) (by kernel_rfl) rfl (by kernel_rfl) Try.underlying4 hW' rfl hb⟩

theorem spare_holds : Rows.CodecSpareSaid :=
  OpenClaim.holds_of_wide 5 Try.f5 rfl rfl rfl rfl rfl rfl rfl ⟨rfl, rfl, rfl, rfl, rfl⟩ rfl rfl rfl rfl rfl (by kernel_rfl) Try.func5 (by kernel_rfl)
    (of_decide_eq_true (by kernel_rfl)) (by unfold Func.isWrapper; first | (rw [if_pos (by decide +kernel)]; kernel_rfl) | (rw [if_neg (by decide +kernel)]; exact ⟨rfl, rfl⟩))
    (fun os started H enc _ => spare_lifted os started H enc)
#print axioms spare_holds
end Go.Proofs.Ythfclmkeadpcbaa
