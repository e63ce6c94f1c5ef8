/-
  Rows: the reference's reading.
-/
import Derived.Test.YthfclmkeadpcbaaCodecP
namespace Go.Proofs.Ythfclmkeadpcbaa
open Go.RowKit Go.Lib

def RowRef (N : Nat) (l : List UInt8) (res : List Val × Int × Int) (w0 : World) (out nx i : Value) (w : World) : Prop :=
  ∃ (ys : List Val) (k : Int), ys.length ≤ N ∧ i = .int .i64 ys.length ∧ nx = .int .i64 k ∧ decVs l (N - ys.length) k ys = res ∧ OwnV w w0.heap.size out ys ∧ Below w0.heap.size w0 w
theorem ownV_of {w : World} {base : Nat} {v : Value} {xs ys : List Val} (h : w.ownsRow base 37 3 v (xs.length + ys.length) (cv xs ++ cv ys)) : OwnV w base v (xs ++ ys) := by
  unfold OwnV; rw [cv_append, List.length_append]; exact h
theorem rdV_new' (w : World) (H : Nat) (hH : w.heap.size = H) (xs : List Val) (n : Nat) (hn : xs.length = n) (hm : n ≤ 1000) : RdV (w.alloc (.cells (cv xs).toArray 37)) (· = H) (.slice (some ⟨H, 0, none⟩) n n) xs := by
  subst hn
  exact Rd.new' w H hH (cv xs) 37 3 xs.length (cv_length xs) (by simp only [maxLen]; omega)

set_option maxRecDepth 100000 in
set_option maxHeartbeats 1000000 in
theorem refRow_any (v : Value) (l : List UInt8) (k : Int) (w : World) (hv : RdB w (· < w.heap.size) v l) :
    Calls Try.prog 38 #[v, .int .i64 k] w (Row3 (decR l k) w) := by
  obtain ⟨i0, hi, hz0, hz1, hz2⟩ := info_parts infoV
  have hC := refInt_any (· < w.heap.size) v l k w hv
  have hbd := decI_bd l k
  unfold decR
  generalize decI l k = r at *
  obtain ⟨n, m, e⟩ := r
  simp only at hbd ⊢
  have HC := Lib.hid hC
  clear hC
  by_cases he : e = 0
  · subst he
    simp only [ne_eq, not_true_eq_false, if_false]
    by_cases h1 : n < 0
    · rw [if_pos h1]
      clear hbd
      go_enter Try.func38, Try.ntmps38
      go_wp2_with fail
      (with_reducible refine HC.out.mono ?_)
      rintro _ _ ⟨rfl, rfl⟩
      go_wp2_with fail
      go_ret3
      exact ⟨_, rfl, OwnV.nil _ _, Below.refl _ _⟩
    · rw [if_neg h1]
      by_cases h2 : 12 < n
      · rw [if_pos h2]
        clear hbd
        go_enter Try.func38, Try.ntmps38
        go_wp2_with fail
        (with_reducible refine HC.out.mono ?_)
        rintro _ _ ⟨rfl, rfl⟩
        go_wp2_with fail
        go_ret3
        exact ⟨_, rfl, OwnV.nil _ _, Below.refl _ _⟩
      · rw [if_neg h2]
        obtain ⟨N, rfl⟩ := Int.eq_ofNat_of_zero_le (show 0 ≤ n by omega)
        rw [Int.toNat_natCast]
        have hN : N ≤ 12 := by omega
        clear hbd h1 h2
        generalize hres : decVs l N m [] = res
        have HR := Lib.hid hres
        clear hres
        go_enter Try.func38, Try.ntmps38
        go_wp2_with fail
        (with_reducible refine HC.out.mono ?_)
        rintro _ _ ⟨rfl, rfl⟩
        go_wp2_with fail
        go_loopw [10, 8, 11] (fun out nx i wr => RowRef N l res w out nx i wr) (fun _ _ i _ => N - (intOf i).toNat)
        case atStart => exact ⟨[], m, Nat.zero_le _, rfl, rfl, HR.out, OwnV.nil _ _, Below.refl _ _⟩
        case round =>
          clear HR
          obtain ⟨ys, k1, hy, rfl, rfl, hd, hO, hB⟩ := hrel
          obtain ⟨wo, rfl⟩ : ∃ wo : World, wo = wr := ⟨_, rfl⟩
          by_cases hlt : ys.length < N
          · have hV := refValue_any v l k1 wo (hv.below hB)
            obtain ⟨q, hq⟩ : ∃ q, N - ys.length = q + 1 := ⟨N - ys.length - 1, by omega⟩
            rw [hq, decVs] at hd
            generalize decV l k1 = r at *
            obtain ⟨x, k2, e⟩ := r
            simp only at hd
            have HV := Lib.hid hV
            have HD := Lib.hid hd
            have HQ := Lib.hid hq
            clear hV hd hq
            have hsz := hB.size
            go_wp2_with fail
            (with_reducible refine HV.out.mono ?_)
            rintro _ w2 ⟨rfl, hb2⟩
            have hs2 := hb2.size
            have hO2 : OwnV w2 w.heap.size u10 ys := hO.kept (row := none) ⟨hb2.os, hb2.tape, hb2.output, hb2.size, fun k hk _ => hb2.block k hk⟩ (by cases u10.ownBlock <;> simp)
            have hB2 : Below w.heap.size w w2 := hB.trans (hb2.mono hsz)
            by_cases he2 : e = 0
            · subst he2
              go_wp2_with (at_builtin; refine wpList_append_app _ rfl (.tmp 45) (.tmp 47) 30 rfl w.heap.size 37 i0 _ 3 32 Try.underlying30 hi hz0 hz1 hz2 rfl (by omega) u10 ys.length (cv ys) rfl (by exact .inl ((hO2.alloc _).alloc _)) (· = w2.heap.size + 1) _ 1 (cv [x]) rfl (by exact rdV_new' _ (w2.heap.size + 1) (by simp) [x] 1 rfl (by omega)) (cv_one _) (by simp only [maxLen]; omega) (by omega) (by simp; omega) ?_; intro v3 w3 _ hO3 _ hb3 _)
              go_roundw
              case rel => exact ⟨ys ++ [x], k2, by simp; omega, by simp, rfl, by have h1 := HD.out; have h2 : N - (ys ++ [x]).length = q := (by have := HQ.out; simp; omega); rw [h2]; simpa using h1, ownV_of (hO3 (.inl (by omega))), (((hB2.alloc hB2.size _).alloc (by simp; omega) _).trans hb3)⟩
              case measure => simp [intOf]; omega
            · have b1 : (e != 0) = true := by rw [bne_iff_ne]; exact he2
              have hres : ([], 0, e) = res := by have := HD.out; simpa [he2] using this
              obtain rfl := hres
              clear HD
              have HE := Lib.hid he2
              clear he2
              go_wp2_with fail
              go_ret3
              exact ⟨_, rfl, OwnV.nil _ _, hB2.alloc hB2.size _⟩
          · have hNy : N = ys.length := by omega
            subst hNy
            rw [Nat.sub_self, decVs] at hd
            obtain rfl := hd
            go_wp2_with fail
            go_ret3
            exact ⟨_, rfl, hO, hB⟩
  · simp only [ne_eq, he, not_false_eq_true, if_true]
    have b1 : (e != 0) = true := by rw [bne_iff_ne]; exact he
    have HE := Lib.hid he
    clear he hbd
    go_enter Try.func38, Try.ntmps38
    go_wp2_with fail
    (with_reducible refine HC.out.mono ?_)
    rintro _ _ ⟨rfl, rfl⟩
    go_wp2_with fail
    go_ret3
    exact ⟨_, rfl, OwnV.nil _ _, Below.refl _ _⟩
end Go.Proofs.Ythfclmkeadpcbaa
