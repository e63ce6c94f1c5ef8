/-
  The reference's comparison of rows.
-/
import Derived.Test.YthfclmkeadpcbaaCodecS
namespace Go.Proofs.Ythfclmkeadpcbaa
open Go.RowKit Go.Lib

theorem ret_int {k : IntKind} {a b : Int} (h : a = b) : Ending.returned (.int k a) = .returned (.int k b) := by rw [h]

def CmpRel (w0 : World) (xs ys : List Val) (res : Int) (i : Value) (w : World) : Prop :=
  ∃ k : Nat, k ≤ xs.length ∧ k ≤ ys.length ∧ i = .int .i64 k ∧ cmpR (xs.drop k) (ys.drop k) = res ∧ Below w0.heap.size w0 w
theorem cmp_at {xs ys : List Val} {k : Nat} (h1 : k < xs.length) (h2 : k < ys.length) : cmpR (xs.drop k) (ys.drop k) = if ltV xs[k] ys[k] = true then -1 else if xs[k].kind = ys[k].kind ∧ xs[k].int = ys[k].int ∧ xs[k].text.data.toList = ys[k].text.data.toList then cmpR (xs.drop (k + 1)) (ys.drop (k + 1)) else 1 := by
  rw [List.drop_eq_getElem_cons h1, List.drop_eq_getElem_cons h2, cmpR]

set_option maxRecDepth 100000 in
set_option maxHeartbeats 2000000 in
theorem refCompare_any (v u : Value) (xs ys : List Val) (w : World) (hv : RdV w (· < w.heap.size) v xs) (hu : RdV w (· < w.heap.size) u ys) :
    Calls Try.prog 21 #[v, u] w fun e w' => e = .returned (.int .i64 (cmpR xs ys)) ∧ Below w.heap.size w w' := by
  obtain ⟨A, c, rfl, hc1, hc2, hc3⟩ := hv.open_
  obtain ⟨A', c', rfl, hc1', hc2', hc3'⟩ := hu.open_
  unfold maxLen at hc2 hc2'
  generalize hres : cmpR xs ys = res
  have HR := Lib.hid hres
  clear hres
  go_enter Try.func21, Try.ntmps21
  go_wp2_with fail
  go_loopw [5] (fun i wr => CmpRel w xs ys res i wr) (fun i _ => xs.length - (intOf i).toNat)
  case atStart => exact ⟨0, Nat.zero_le _, Nat.zero_le _, rfl, HR.out, Below.refl _ _⟩
  case round =>
    clear HR
    obtain ⟨k, hk, hk', rfl, hd, hB⟩ := hrel
    obtain ⟨wo, rfl⟩ : ∃ wo : World, wo = wr := ⟨_, rfl⟩
    have hsz := hB.size
    by_cases hlt : k < xs.length
    · by_cases hlt' : k < ys.length
      · obtain ⟨b1, o1, rfl, hF1, g0, g1, g2⟩ := RdV.at_ (Rd.below hv hB) hlt
        obtain ⟨b2, o2, rfl, hF2, f0, f1, f2⟩ := RdV.at_ (Rd.below hu hB) hlt'
        rw [cmp_at hlt hlt'] at hd
        have hF1' : b1 < wo.heap.size := by omega
        have hF2' : b2 < wo.heap.size := by omega
        generalize xs[k] = x at *
        generalize ys[k] = y at *
        obtain ⟨kx, ix, tx⟩ := x
        obtain ⟨ky, iy, ty⟩ := y
        simp only at g0 g1 g2 f0 f1 f2 hd
        have i1 : (0 : Int) ≤ (k : Int) := by omega
        have HD := Lib.hid hd
        clear hd
        by_cases c1 : kx < ky
        · have hE := Lib.hid (show (-1 : Int) = res by rw [← HD.out, if_pos (by rw [ltV_iff]; exact .inl c1)])
          clear HD
          go_wp2_with fail
          go_region
          all_goals
            go_wp2_with fail
            go_ret
            exact ⟨ret_int hE.out, ((hB.alloc hsz _).alloc (by simp; omega) _).drew⟩
        · by_cases c2 : ky < kx
          · have hE := Lib.hid (show (1 : Int) = res by rw [← HD.out, if_neg (by rw [ltV_iff]; simp only; rintro (h | h | h); (omega); (omega); (first | omega | exact c5 h.2.2 | (exact absurd h.1 (by omega)) | (exact absurd h.2.1 (by omega)))), if_neg (by omega)])
            clear HD
            go_wp2_with fail
            go_region
            all_goals
              go_wp2_with fail
              go_ret
              exact ⟨ret_int hE.out, ((hB.alloc hsz _).alloc (by simp; omega) _).drew⟩
          · obtain rfl : kx = ky := by omega
            clear c1 c2
            by_cases c3 : ix < iy
            · have hE := Lib.hid (show (-1 : Int) = res by rw [← HD.out, if_pos (by rw [ltV_iff]; exact .inr (.inl ⟨rfl, c3⟩))])
              clear HD
              go_wp2_with fail
              go_region
              all_goals
                go_wp2_with fail
                go_ret
                exact ⟨ret_int hE.out, ((hB.alloc hsz _).alloc (by simp; omega) _).drew⟩
            · by_cases c4 : iy < ix
              · have hE := Lib.hid (show (1 : Int) = res by rw [← HD.out, if_neg (by rw [ltV_iff]; simp only; rintro (h | h | h); (omega); (omega); (first | omega | exact c5 h.2.2 | (exact absurd h.1 (by omega)) | (exact absurd h.2.1 (by omega)))), if_neg (by omega)])
                clear HD
                go_wp2_with fail
                go_region
                all_goals
                  go_wp2_with fail
                  go_ret
                  exact ⟨ret_int hE.out, ((hB.alloc hsz _).alloc (by simp; omega) _).drew⟩
              · obtain rfl : ix = iy := by omega
                clear c3 c4
                by_cases c5 : Op.bytesLess tx.data.toList ty.data.toList = true
                · have c5' : Op.bytesLess tx.toList ty.toList = true := by rw [ByteArray.toList_eq, ByteArray.toList_eq]; exact c5
                  have hE := Lib.hid (show (-1 : Int) = res by rw [← HD.out, if_pos (by rw [ltV_iff]; exact .inr (.inr ⟨rfl, rfl, c5⟩))])
                  clear HD
                  go_wp2_with fail
                  go_region
                  all_goals
                    go_wp2_with fail
                    go_ret
                    exact ⟨ret_int hE.out, ((hB.alloc hsz _).alloc (by simp; omega) _).drew⟩
                · have c5' : Op.bytesLess tx.toList ty.toList = false := by rw [ByteArray.toList_eq, ByteArray.toList_eq]; simpa using c5
                  by_cases c6 : tx.data.toList = ty.data.toList
                  · have hE := Lib.hid (show cmpR (xs.drop (k + 1)) (ys.drop (k + 1)) = res by rw [← HD.out, if_neg (by rw [ltV_iff]; simp only; rintro (h | h | h); (omega); (omega); (first | omega | exact c5 h.2.2 | (exact absurd h.1 (by omega)) | (exact absurd h.2.1 (by omega)))), if_pos ⟨rfl, rfl, c6⟩])
                    clear HD
                    obtain rfl := data_inj c6
                    clear c6 c5
                    go_wp2_with fail
                    go_region
                    all_goals
                      go_wp2_with fail
                      go_roundw
                      case rel => exact ⟨k + 1, by omega, by omega, by go_num, hE.out, ((hB.alloc hsz _).alloc (by simp; omega) _).drew⟩
                      case measure => simp [intOf]; omega
                  · have c6' : (tx.toList == ty.toList) = false := by rw [ByteArray.toList_eq, ByteArray.toList_eq]; simpa using c6
                    have hE := Lib.hid (show (1 : Int) = res by rw [← HD.out, if_neg (by rw [ltV_iff]; simp only; rintro (h | h | h); (omega); (omega); (first | omega | exact c5 h.2.2 | (exact absurd h.1 (by omega)) | (exact absurd h.2.1 (by omega)))), if_neg (by exact fun h => c6 h.2.2)])
                    clear HD
                    go_wp2_with fail
                    go_region
                    all_goals
                      go_wp2_with fail
                      go_ret
                      exact ⟨ret_int hE.out, ((hB.alloc hsz _).alloc (by simp; omega) _).drew⟩
      · have hE := Lib.hid (show (1 : Int) = res by rw [← hd, List.drop_eq_getElem_cons hlt, List.drop_eq_nil_of_le (show ys.length ≤ k by omega), cmpR])
        clear hd
        have hgt : ys.length < xs.length := by omega
        go_wp2_with fail
        go_ret
        exact ⟨ret_int hE.out, hB⟩
    · by_cases hgt : xs.length < ys.length
      · have hE := Lib.hid (show (-1 : Int) = res by rw [← hd, List.drop_eq_nil_of_le (show xs.length ≤ k by omega), List.drop_eq_getElem_cons (show k < ys.length by omega), cmpR])
        clear hd
        go_wp2_with fail
        go_ret
        exact ⟨ret_int hE.out, hB⟩
      · have hE := Lib.hid (show (0 : Int) = res by rw [← hd, List.drop_eq_nil_of_le (show xs.length ≤ k by omega), List.drop_eq_nil_of_le (show ys.length ≤ k by omega), cmpR])
        clear hd
        have hle : ¬ ys.length < xs.length := by omega
        go_wp2_with fail
        go_ret
        exact ⟨ret_int hE.out, hB⟩
end Go.Proofs.Ythfclmkeadpcbaa
