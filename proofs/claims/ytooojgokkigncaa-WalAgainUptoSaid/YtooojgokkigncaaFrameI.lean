/-
  Frames: what Next answers, in one.
-/
import Derived.Test.YtooojgokkigncaaFrameH
namespace Go.Proofs.Ytooojgokkigncaa
open Go.RowKit Go.Lib Go.IntWalk

theorem next_any (v : Value) (l : List UInt8) (k : Int) (w : World) (hv : RdB w (· < w.heap.size) v l) :
    Calls Try.prog 66 #[v, .int .i64 k] w (Fr3 (nextF l k) w) := by
  by_cases h1 : k < 0 ∨ (l.length : Int) < k
  · rw [nextF, if_pos h1]
    exact next_out v l k _ w hv h1
  obtain ⟨j, rfl⟩ : ∃ j : Nat, k = (j : Int) := ⟨k.toNat, by omega⟩
  rw [nextF, if_neg h1, Int.toNat_natCast]
  by_cases h2 : l.length < j + 8
  · rw [if_pos h2]
    exact next_short v l j _ w hv (by omega) h2
  rw [if_neg h2]
  obtain ⟨A, c, rfl, hc1, hc2, hc3⟩ := hv.open_
  obtain ⟨b, off, rfl, -, -⟩ := bytes_at hv (by omega)
  by_cases h3 : 1048576 < num4L l j
  · rw [if_pos h3]
    exact next_long b off c j _ l w hv hc1 (by omega) rfl h3
  rw [if_neg h3]
  by_cases h4 : l.length < j + 8 + num4L l j
  · rw [if_pos h4]
    exact next_cut b off c j _ l w hv hc1 (by omega) rfl h3 h4
  rw [if_neg h4]
  by_cases h8 : c - j = 8
  · have hn : num4L l j = 0 := by omega
    rw [hn, List.take_zero]
    by_cases h5 : num4L l (j + 4) = crcSum ((l.drop j).take 4) []
    · rw [if_neg (fun h => h h5)]
      have := next_last b off c j l w (by omega) (by omega) hv hc2 hn _ _ rfl rfl h5
      rw [show (j : Int) + 8 + ((0 : Nat) : Int) = (j : Int) + 8 by omega]
      exact this
    · rw [if_pos h5]
      exact next_lastbad b off c j l w (by omega) (by omega) hv hc2 hn _ _ rfl rfl h5
  · by_cases h5 : num4L l (j + 4) = crcSum ((l.drop j).take 4) ((l.drop (j + 8)).take (num4L l j))
    · rw [if_neg (fun h => h h5)]
      by_cases hz : num4L l j = 0
      · exact next_none b off c j _ l w hv hc1 (by omega) rfl _ _ rfl rfl h3 h4 hc2 h8 h5 hz
      · exact next_ok b off c j _ l w hv hc1 (by omega) rfl _ _ rfl rfl h3 h4 hc2 h8 h5 (by omega)
    · rw [if_pos h5]
      exact next_bad b off c j _ l w hv hc1 (by omega) rfl _ _ rfl rfl h3 h4 hc2 h8 h5
end Go.Proofs.Ytooojgokkigncaa
