/-
  The examples of the chapter.
-/
import Derived.Test.YthfclmkeadpcbaaCodecI
namespace Go.Proofs.Ythfclmkeadpcbaa
open Go.RowKit Go.Lib

theorem ex1 : [9] ++ encI (-1) ++ encI 63 ++ encI 64 = [9, 1, 126, 128, 1] := by decide +kernel
theorem ex2 : encV ⟨2, 0, ⟨#[97, 98]⟩⟩ = [2, 4, 97, 98] := by decide +kernel
theorem ex3 : decI [128, 0] 0 = (0, 0, 1) := by decide +kernel
theorem ex4 : decI [128] 0 = (0, 0, 2) := by decide +kernel
theorem ex5 : decI [9, 1, 126, 128, 1] 2 = (63, 3, 0) := by decide +kernel
theorem ex6 : keyR [⟨1, -1, ⟨#[]⟩⟩, ⟨2, 0, ⟨#[97]⟩⟩] = [2, 127, 255, 255, 255, 255, 255, 255, 255, 3, 97, 0] := by decide +kernel

theorem rdV_new (w : World) (xs : List Val) (n : Nat) (hn : xs.length = n) (hm : n ≤ 1000) : RdV (w.alloc (.cells (cv xs).toArray 37)) (· < (w.alloc (.cells (cv xs).toArray 37)).heap.size) (.slice (some ⟨w.heap.size, 0, none⟩) n n) xs := by
  subst hn
  exact (Rd.new w (cv xs) 37 3 xs.length (cv_length xs) (by simp only [maxLen]; omega)).wide fun b hb => by simp; omega

theorem rdB_lit (w : World) (m : List UInt8) (n : Nat) (hn : m.length = n) (hm : n ≤ 1000) : RdB (w.alloc (.cells (bv m).toArray 5)) (· < (w.alloc (.cells (bv m).toArray 5)).heap.size) (.slice (some ⟨w.heap.size, 0, none⟩) n n) m :=
  (rdB_new w w.heap.size rfl m n hn hm).wide fun b hb => by simp; omega

set_option maxRecDepth 100000 in
set_option maxHeartbeats 1000000 in
theorem works_any (w : World) : Calls Try.prog 16 #[] w fun e w' => e = .returned (.bool true) ∧ Below w.heap.size w w' := by
  go_enter Try.func16, Try.ntmps16
  go_wp2_with fail
  (with_reducible refine (putInt_any _ [9] (-1) _ ?_ ?_ ?_ ?_).mono ?_)
  · omega
  · omega
  · exact rdB_lit w [9] 1 rfl (by omega)
  · decide
  rintro e w1 ⟨v1, rfl, ho1, hb1⟩
  have hB1 : Below w.heap.size w w1 := (Below.of_alloc (.cells #[.int .u8 9] 5)).trans (hb1.mono (by simp))
  clear hb1
  go_wp2_with fail
  (with_reducible refine (putInt_any _ _ 63 _ ?_ ?_ ho1.rd ?_).mono ?_)
  · omega
  · omega
  · decide
  rintro e w2 ⟨v2, rfl, ho2, hb2⟩
  go_wp2_with fail
  (with_reducible refine (putInt_any _ _ 64 _ ?_ ?_ ho2.rd ?_).mono ?_)
  · omega
  · omega
  · decide
  rintro e w3 ⟨v3, rfl, ho3, hb3⟩
  have hB3 : Below w.heap.size w w3 := hB1.trans ((hb2.trans (hb3.mono hb2.size)).mono hB1.size)
  rw [ex1] at ho3
  clear ho1 ho2 hb2 hb3 hB1
  go_wp2_with fail
  (with_reducible refine (putValue_any _ [] ⟨2, 0, ⟨#[97, 98]⟩⟩ _ ?_ ?_ (RdB.nil _ _) ?_).mono ?_)
  · decide
  · decide
  · decide
  rintro e w4 ⟨v4, rfl, ho4, hb4⟩
  rw [ex2] at ho4
  have hB4 : Below w.heap.size w w4 := hB3.trans (hb4.mono hB3.size)
  have hr3 := ho3.rd.below hb4
  clear ho3 hb4 hB3
  go_wp2_with fail
  (with_reducible refine (int_any (· < (w4.alloc (.cells (bv [128, 0]).toArray 5)).heap.size) _ [128, 0] 0 _ ?_).mono ?_)
  · exact rdB_lit w4 [128, 0] 2 rfl (by omega)
  rw [ex3]
  rintro e w5 ⟨rfl, rfl⟩
  go_wp2_with fail
  (with_reducible refine (int_any (· = w4.heap.size + 1) _ [128] 0 _ ?_).mono ?_)
  · exact rdB_new _ (w4.heap.size + 1) (by simp) [128] 1 rfl (by omega)
  rw [ex4]
  rintro e w6 ⟨rfl, rfl⟩
  have hr5 := (hr3.below (Below.of_alloc (.cells #[.int .u8 128, .int .u8 0] 5))).below (Below.of_alloc (.cells #[.int .u8 128] 5))
  have hr6 := (ho4.rd.below (Below.of_alloc (.cells #[.int .u8 128, .int .u8 0] 5))).below (Below.of_alloc (.cells #[.int .u8 128] 5))
  have hB5 : Below w.heap.size w ((w4.alloc (.cells #[.int .u8 128, .int .u8 0] 5)).alloc (.cells #[.int .u8 128] 5)) := (hB4.alloc hB4.size _).alloc (by simp; have := hB4.size; omega) _
  clear hr3 ho4 hB4
  generalize hW : (w4.alloc (.cells #[.int .u8 128, .int .u8 0] 5)).alloc (.cells #[.int .u8 128] 5) = W at *
  clear hW
  go_wp2_with fail
  (with_reducible refine (int_any _ _ [9, 1, 126, 128, 1] 2 _ hr5).mono ?_)
  rw [ex5]
  rintro e w6 ⟨rfl, rfl⟩
  go_wp2_with fail
  (with_reducible refine (key_any _ [⟨1, -1, ⟨#[]⟩⟩, ⟨2, 0, ⟨#[97]⟩⟩] _ ?_ ?_ ?_).mono ?_)
  · exact rdV_new W [⟨1, -1, ⟨#[]⟩⟩, ⟨2, 0, ⟨#[97]⟩⟩] 2 rfl (by omega)
  · intro x hx
    simp at hx
    rcases hx with rfl | rfl <;> exact ⟨by decide, by decide, by decide⟩
  · rw [ex6]; decide
  rintro e w7 ⟨v7, rfl, ho7, hb7⟩
  rw [ex6] at ho7
  have hbb := (Below.of_alloc (w := W) (.cells (cv [⟨1, -1, ⟨#[]⟩⟩, ⟨2, 0, ⟨#[97]⟩⟩]).toArray 37)).trans (hb7.mono (by simp))
  have q1 := run_bytes_str (hr5.below hbb)
  have q2 := run_bytes_str (hr6.below hbb)
  have q3 := run_bytes_str ho7.rd
  have hB7 := hB5.trans (hbb.mono hB5.size)
  clear hr5 hr6 ho7 hb7 hbb hB5
  have t1 := strB_toList [9, 1, 126, 128, 1]
  have t2 := strB_toList [2, 4, 97, 98]
  have t3 := strB_toList [2, 127, 255, 255, 255, 255, 255, 255, 255, 3, 97, 0]
  go_wp2_with fail
  go_ret
  exact ⟨rfl, hB7⟩
end Go.Proofs.Ythfclmkeadpcbaa
