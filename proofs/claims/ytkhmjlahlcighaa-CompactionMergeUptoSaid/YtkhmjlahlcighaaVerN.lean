/-
  CompactionMerge: the law's walk.
-/
import Derived.Test.YtkhmjlahlcighaaVerO
import Derived.Test.YtkhmjlahlcighaaVerM
import Derived.Test.YtkhmjlahlcighaaVerK
namespace Go.Proofs.Ytkhmjlahlcighaa
open Go.RowKit Go.Lib Go.IntWalk Go.Sort Go.Shelf

set_option maxRecDepth 1000000 in
set_option maxHeartbeats 4000000 in
theorem lawMerge_any (v : Value) (ls : List LVP) (w : World) (hv : RdLL w (· < w.heap.size) v ls) (hn : (allP ls).length ≤ 1048576) :
    Calls Try.prog 4 #[v] w fun e w' => e = .returned (.bool true) ∧ Below w.heap.size w w' := by
  have KF := few_any v ls w hv hn
  obtain ⟨A, c, rfl, hc1, hc2, hc3⟩ := hv.1.open_
  have HVS := Lib.hid hv
  clear hv hn hc3 hc2
  go_enter Try.func4, Try.ntmps4
  go_wp2_with fail
  (with_reducible refine KF.mono ?_)
  rintro _ w1 ⟨b, rfl, hw1, hb⟩
  rw [hw1]
  clear hw1 w1 KF
  cases b
  case false =>
    clear hb
    go_wp2_with fail
    (with_reducible refine (works_any w).mono ?_)
    rintro _ w2 ⟨rfl, hb2⟩
    go_wp2_with fail
    go_ret
    exact ⟨rfl, hb2⟩
  case true =>
    have hl := hb rfl
    have K1 := merge_any _ ls w HVS.out (by omega)
    have HL := Lib.hid hl
    clear hb hl
    go_wp2_with fail
    (with_reducible refine K1.mono ?_)
    rintro _ m1 ⟨u, r, Q, rfl, hm1, hQ, hS1⟩
    have K2 := refMerge_any _ ls m1 (HVS.out.below hm1) (by have := HL.out; omega)
    have HQ := Lib.hid hQ
    obtain ⟨Au, cu, rfl, _⟩ := hQ.1.open_
    have HS1 := Lib.hid hS1
    clear hQ hS1 K1
    go_wp2_with fail
    (with_reducible refine K2.mono ?_)
    rintro _ m2 ⟨u2, r2, Q2, rfl, hm2, hQ2, hS2⟩
    obtain ⟨rfl, hqq⟩ := MSpec.unique HS1.out hS2
    have KS := sameVersions_any _ _ Q Q2 m2 (HQ.out.below hm2) hQ2 hqq
    obtain ⟨Au2, cu2, rfl, _⟩ := hQ2.1.open_
    have hB2 : Below w.heap.size w m2 := hm1.trans (hm2.mono hm1.size)
    clear hQ2 hqq hS2 K2 HQ HS1
    go_wp2_with fail
    (with_reducible refine KS.mono ?_)
    rintro _ m3 ⟨rfl, hm3⟩
    have hB3 : Below w.heap.size w m3 := hB2.trans (hm3.mono hB2.size)
    go_wp2_with fail
    (with_reducible refine (works_any m3).mono ?_)
    rintro _ m4 ⟨rfl, hm4⟩
    go_wp2_with fail
    go_ret
    exact ⟨rfl, hB3.trans (hm4.mono hB3.size)⟩
end Go.Proofs.Ytkhmjlahlcighaa
