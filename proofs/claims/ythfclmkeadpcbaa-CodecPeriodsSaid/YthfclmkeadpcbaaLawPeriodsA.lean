/-
  For every slice of bytes b, every period p and every integer at, CodecPeriods returns true and changes nothing that was there. No condition.
-/
import Derived.Test.YthfclmkeadpcbaaLaw2
import Derived.Test.YthfclmkeadpcbaaCodecK
namespace Go.Proofs.Ythfclmkeadpcbaa
open Go.ChangeShapes Go.WideShapes Go.ChangeAt Go.RowKit Go.Lib
open Go.ChangeMaps (open_string)

set_option maxRecDepth 100000 in
set_option maxHeartbeats 1000000 in
theorem lawPeriods_any (v : Value) (l : List UInt8) (f t k : Int) (w : World) (f1 : -9223372036854775808 ≤ f) (f2 : f ≤ 9223372036854775807) (t1 : -9223372036854775808 ≤ t) (t2 : t ≤ 9223372036854775807)
    (hv : RdB w (· < w.heap.size) v l) (hl : l.length ≤ 140737488354000) :
    Calls Try.prog 7 #[v, .agg #[.int .i64 f, .int .i64 t], .int .i64 k] w fun e w' => e = .returned (.bool true) ∧ Below w.heap.size w w' := by
  have hI := fun (W : World) (h : Below w.heap.size w W) => period_any v l k W (hv.below h)
  have hR := fun (W : World) (h : Below w.heap.size w W) => refPeriod_any v l k W (hv.below h)
  generalize decP l k = r at *
  obtain ⟨⟨a, b⟩, c, d⟩ := r
  have HI := Lib.hid hI
  have HR := Lib.hid hR
  clear hI hR
  go_enter Try.func7, Try.ntmps7
  go_wp2_with fail
  (with_reducible refine (HI.out _ (below1 _)).mono ?_)
  rintro _ w1 ⟨rfl, hb1⟩
  have hB1 : Below w.heap.size w w1 := (below1 _).trans (hb1.mono (by simp))
  go_wp2_with fail
  (with_reducible refine (HR.out _ (hB1.alloc hB1.size _)).mono ?_)
  rintro _ w2 ⟨rfl, hb2⟩
  have hs1 := hb1.size
  have hs2 := hb2.size
  rw [World.size_alloc] at hs1 hs2
  have hB2 : Below w.heap.size w w2 := (hB1.alloc hB1.size _).trans (hb2.mono (by simp; omega))
  have hS2 : w2.heap.size < (w2.alloc (.cells #[.int .i64 a, .int .i64 b] 44)).heap.size := by simp
  have hBB1 : Below (w1.alloc (.cells #[.int .i64 a, .int .i64 b] 44)).heap.size (w1.alloc (.cells #[.int .i64 a, .int .i64 b] 44)) (w2.alloc (.cells #[.int .i64 a, .int .i64 b] 44)) := hb2.alloc hb2.size _
  have hBB0 : Below (w.alloc (.cells #[.int .i64 f, .int .i64 t] 44)).heap.size (w.alloc (.cells #[.int .i64 f, .int .i64 t] 44)) (w2.alloc (.cells #[.int .i64 a, .int .i64 b] 44)) := (hb1.alloc hb1.size _).trans (hBB1.mono (by simp; omega))
  have c0 := (hBB0.cell (p := ⟨w.heap.size, 0, none⟩) (by simp)).trans (box_cell w _ _ 0 rfl)
  have c1 := (hBB0.cell (p := ⟨w.heap.size, 1, none⟩) (by simp)).trans (box_cell w _ _ 1 rfl)
  have c2 := (hBB1.cell (p := ⟨w1.heap.size, 0, none⟩) (by simp)).trans (box_cell w1 _ _ 0 rfl)
  have c3 := (hBB1.cell (p := ⟨w1.heap.size, 1, none⟩) (by simp)).trans (box_cell w1 _ _ 1 rfl)
  have c4 := box_cell w2 #[.int .i64 a, .int .i64 b] 44 0 rfl
  have c5 := box_cell w2 #[.int .i64 a, .int .i64 b] 44 1 rfl
  have hB3 : Below w.heap.size w (w2.alloc (.cells #[.int .i64 a, .int .i64 b] 44)) := hB2.alloc hB2.size _
  go_wp2_with fail
  generalize hW : w2.alloc (.cells #[.int .i64 a, .int .i64 b] 44) = W at *
  have hz0 : w.heap.size < W.heap.size := by omega
  have hz1 : w1.heap.size < W.heap.size := by omega
  clear hW hBB0 hBB1 hb1 hb2 hB1 hB2 HI HR
  go_region_held3 (fun w' => w'.cell? ⟨w.heap.size, 0, none⟩ = some (.int .i64 f) ∧ w'.cell? ⟨w.heap.size, 1, none⟩ = some (.int .i64 t) ∧ w'.cell? ⟨w1.heap.size, 0, none⟩ = some (.int .i64 a) ∧ w'.cell? ⟨w1.heap.size, 1, none⟩ = some (.int .i64 b) ∧ w'.cell? ⟨w2.heap.size, 0, none⟩ = some (.int .i64 a) ∧ w'.cell? ⟨w2.heap.size, 1, none⟩ = some (.int .i64 b))
    (first
      | go_keep
      | (go_split_ands; refine ⟨?_, ?_, ?_, ?_, ?_, ?_⟩ <;> (refine (hb5.cell ?_).trans ?_ <;> first | assumption | (simp; omega)))
      | (go_split_ands; refine ⟨?_, ?_, ?_, ?_, ?_, ?_⟩ <;> (refine (hb4.cell ?_).trans ?_ <;> first | assumption | (simp; omega)))
      | (go_split_ands; refine ⟨?_, ?_, ?_, ?_, ?_, ?_⟩ <;> (refine (hb3.cell ?_).trans ?_ <;> first | assumption | (simp; omega))))
    (first
      | (go_at_call 27; ((with_reducible refine (putPeriod_any v l f t _ f1 f2 t1 t2 ?_ hl).mono ?_)); (exact hv.below hB3.drew); rintro e w3 ⟨v3, rfl, ho3, hb3⟩; have hs3 : W.heap.size ≤ w3.heap.size := hb3.size)
      | (go_at_call 33; ((with_reducible refine (refPutPeriod_any v l f t _ f1 f2 t1 t2 ?_ hl).mono ?_)); (exact (hv.below hB3.drew).below hb3); rintro e w4 ⟨v4, rfl, ho4, hb4⟩; have hs4 := hb4.size)
      | (go_at_call 13; ((with_reducible refine (equal_same v3 v4 _ _ _ _ (ho3.rd.below hb4) ho4.rd).mono ?_)); rintro e w5 ⟨rfl, rfl⟩)
      | (go_at_call 16; ((with_reducible refine (works_any _).mono ?_)); rintro e w5 ⟨rfl, hb5⟩))
  go_wp2
  go_ret
  exact ⟨rfl, hB3.drew.trans ((hb3.trans ((hb4.trans (hb5.mono hb4.size)).mono hb3.size)).mono hB3.size)⟩
end Go.Proofs.Ythfclmkeadpcbaa
