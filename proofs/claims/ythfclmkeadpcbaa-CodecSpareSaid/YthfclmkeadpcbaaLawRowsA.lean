/-
  The walk of CodecRows.
-/
import Derived.Test.YthfclmkeadpcbaaLaw3
import Derived.Test.YthfclmkeadpcbaaCodecJ
namespace Go.Proofs.Ythfclmkeadpcbaa
open Go.ChangeShapes Go.WideShapes Go.ChangeAt Go.RowKit Go.Lib

set_option maxRecDepth 100000 in
set_option maxHeartbeats 2000000 in
theorem lawRows_yes (v u : Value) (l : List UInt8) (xs : List Val) (k : Int) (w : World) (hv : RdB w (· < w.heap.size) v l) (hu : RdV w (· < w.heap.size) u xs) (hok : ∀ x ∈ xs, goV x) (hput : ∀ x ∈ xs, putV x) (hl : l.length + (encR xs).length + 200 ≤ 140737488354000) (hval : (xs.all validV && decide (xs.length ≤ 12)) = true) :
    Calls Try.prog 9 #[v, u, .int .i64 k] w fun e w' => e = .returned (.bool true) ∧ Below w.heap.size w w' := by
  have hI := row_any v l k w hv
  have hR := fun (W : World) (h : Below w.heap.size w W) => refRow_any v l k W (hv.below h)
  generalize decR l k = r at *
  obtain ⟨r, c, d⟩ := r
  have HI := Lib.hid hI
  have HR := Lib.hid hR
  have HV := Lib.hid hval
  clear hI hR hval
  go_enter Try.func9, Try.ntmps9
  go_wp2_with fail
  (with_reducible refine HI.out.mono ?_)
  rintro _ w1 ⟨v1, rfl, ho1, hb1⟩
  go_wp2_with fail
  (with_reducible refine (HR.out _ hb1).mono ?_)
  rintro _ w2 ⟨v2, rfl, ho2, hb2⟩
  have hB2 : Below w.heap.size w w2 := hb1.trans (hb2.mono hb1.size)
  simp only at ho1 ho2
  clear HI HR
  go_wp2_with fail
  (with_reducible refine (rows_same v1 v2 r _ ?_ ?_).mono ?_)
  · exact ho1.rd.below hb2
  · exact ho2.rd
  rintro e w3 ⟨rfl, hb3⟩
  go_wp2_with fail
  (with_reducible refine (refValidRow_any u xs _ ?_ hok).mono ?_)
  · exact (hu.below hB2).below hb3
  rw [HV.out]
  rintro e w4 ⟨rfl, hb4⟩
  go_wp2_with fail
  (with_reducible refine (putRow_any v u l xs _ ?_ ?_ hput hl).mono ?_)
  · exact ((hv.below hB2).below hb3).below hb4
  · exact ((hu.below hB2).below hb3).below hb4
  rintro e w5 ⟨v5, rfl, ho5, hb5⟩
  go_wp2_with fail
  (with_reducible refine (refPutRow_any v u l xs _ ?_ ?_ hput hl).mono ?_)
  · exact (((hv.below hB2).below hb3).below hb4).below hb5
  · exact (((hu.below hB2).below hb3).below hb4).below hb5
  rintro e w6 ⟨v6, rfl, ho6, hb6⟩
  go_wp2_with fail
  (with_reducible refine (equal_same v5 v6 _ _ _ _ (ho5.rd.below hb6) ho6.rd).mono ?_)
  rintro e w7 ⟨rfl, rfl⟩
  go_wp2_with fail
  (with_reducible refine (works_any _).mono ?_)
  rintro e w8 ⟨rfl, hb8⟩
  go_wp2_with fail
  go_ret
  exact ⟨rfl, hB2.trans ((hb3.trans ((hb4.trans ((hb5.trans ((hb6.trans (hb8.mono hb6.size)).mono hb5.size)).mono hb4.size)).mono hb3.size)).mono hB2.size)⟩

set_option maxRecDepth 100000 in
set_option maxHeartbeats 2000000 in
theorem lawRows_no (v u : Value) (l : List UInt8) (xs : List Val) (k : Int) (w : World) (hv : RdB w (· < w.heap.size) v l) (hu : RdV w (· < w.heap.size) u xs) (hok : ∀ x ∈ xs, goV x) (hval : (xs.all validV && decide (xs.length ≤ 12)) = false) :
    Calls Try.prog 9 #[v, u, .int .i64 k] w fun e w' => e = .returned (.bool true) ∧ Below w.heap.size w w' := by
  have hI := row_any v l k w hv
  have hR := fun (W : World) (h : Below w.heap.size w W) => refRow_any v l k W (hv.below h)
  generalize decR l k = r at *
  obtain ⟨r, c, d⟩ := r
  have HI := Lib.hid hI
  have HR := Lib.hid hR
  have HV := Lib.hid hval
  clear hI hR hval
  go_enter Try.func9, Try.ntmps9
  go_wp2_with fail
  (with_reducible refine HI.out.mono ?_)
  rintro _ w1 ⟨v1, rfl, ho1, hb1⟩
  go_wp2_with fail
  (with_reducible refine (HR.out _ hb1).mono ?_)
  rintro _ w2 ⟨v2, rfl, ho2, hb2⟩
  have hB2 : Below w.heap.size w w2 := hb1.trans (hb2.mono hb1.size)
  simp only at ho1 ho2
  clear HI HR
  go_wp2_with fail
  (with_reducible refine (rows_same v1 v2 r _ ?_ ?_).mono ?_)
  · exact ho1.rd.below hb2
  · exact ho2.rd
  rintro e w3 ⟨rfl, hb3⟩
  go_wp2_with fail
  (with_reducible refine (refValidRow_any u xs _ ?_ hok).mono ?_)
  · exact (hu.below hB2).below hb3
  rw [HV.out]
  rintro e w4 ⟨rfl, hb4⟩
  go_wp2_with fail
  (with_reducible refine (works_any _).mono ?_)
  rintro e w8 ⟨rfl, hb8⟩
  go_wp2_with fail
  go_ret
  exact ⟨rfl, hB2.trans ((hb3.trans ((hb4.trans (hb8.mono hb4.size)).mono hb3.size)).mono hB2.size)⟩

end Go.Proofs.Ythfclmkeadpcbaa
