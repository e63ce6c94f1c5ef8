/-
  What was put is read again, and what is read was put: the codec's plain laws. No program here.
-/
import Derived.Test.YthfclmkeadpcbaaCodecR
namespace Go.Proofs.Ythfclmkeadpcbaa
open Go.RowKit Go.Lib

theorem ofNat_small {u : Nat} (h : u < 256) : (UInt8.ofNat u).toNat = u := by simp [UInt8.toNat_ofNat']; omega

theorem decL_vl (at_ : Int) (r : List UInt8) : ∀ (f i z u : Nat), i + f = 9 → z + u * 128 ^ i < 18446744073709551616 → (i = 0 ∨ u ≠ 0) →
    decL at_ (vl f u ++ r) i z = (unzz (z + u * 128 ^ i), at_ + i + (vl f u).length, 0) := by
  intro f
  induction f with
  | zero =>
    intro i z u hi hlt h0
    obtain rfl : i = 9 := by omega
    have hu : u = 1 := by
      have : u * 128 ^ 9 < 2 * 128 ^ 9 := by omega
      have := Nat.lt_of_mul_lt_mul_right this
      omega
    subst hu
    show decL at_ (UInt8.ofNat 1 :: r) 9 z = _
    have e : (UInt8.ofNat 1).toNat = 1 := rfl
    rw [decL_end (by rw [e]; omega) (by rw [e]; omega), e]
    simp [vl]
  | succ f ih =>
    intro i z u hi hlt h0
    by_cases hu : u < 128
    · rw [vl_small _ hu]
      have e := ofNat_small (u := u) (by omega)
      show decL at_ (UInt8.ofNat u :: r) i z = _
      rw [decL_end (by rw [e]; omega) (by rw [e]; omega), e, Nat.mod_eq_of_lt hu]
      simp
    · rw [vl_big _ (by omega)]
      have e := ofNat_small (u := u % 128 + 128) (by omega)
      show decL at_ (UInt8.ofNat (u % 128 + 128) :: (vl f (u / 128) ++ r)) i z = _
      have e2 : (u % 128 + 128) % 128 = u % 128 := by omega
      have e3 : z + u % 128 * 128 ^ i + u / 128 * 128 ^ (i + 1) = z + u * 128 ^ i := by
        have := Nat.mod_add_div u 128
        rw [Nat.pow_succ]
        calc z + u % 128 * 128 ^ i + u / 128 * (128 ^ i * 128) = z + (u % 128 + 128 * (u / 128)) * 128 ^ i := by rw [Nat.add_mul, Nat.add_assoc, Nat.mul_comm (128 ^ i) 128, ← Nat.mul_assoc, Nat.mul_comm (u / 128) 128]
          _ = _ := by rw [this]
      rw [decL_on (by rw [e]; omega) (by rw [e]; omega), e, e2, ih (i + 1) _ (u / 128) (by omega) (by rw [e3]; exact hlt) (.inr (by omega)), e3]
      simp only [List.length_cons]
      congr 2
      omega

theorem decI_put (a r : List UInt8) (n : Int) (h1 : -9223372036854775808 ≤ n) (h2 : n ≤ 9223372036854775807) :
    decI (a ++ (encI n ++ r)) (a.length : Int) = (n, ((a ++ encI n).length : Int), 0) := by
  rw [decI_in (by simp), List.drop_left]
  unfold encI
  rw [decL_vl _ _ 9 0 0 (zz n) rfl (by have := zz_lt h1 h2; omega) (.inl rfl)]
  simp [unzz_zz]

theorem decL_got (at_ n m : Int) : ∀ (l : List UInt8) (i z : Nat), i ≤ 9 → z < 128 ^ i → decL at_ l i z = (n, m, 0) →
    ∃ u r, l = vl (9 - i) u ++ r ∧ n = unzz (z + u * 128 ^ i) ∧ m = at_ + i + (vl (9 - i) u).length ∧ (i = 0 ∨ u ≠ 0) := by
  intro l
  induction l with
  | nil => intro i z _ _ h; rw [decL_nil] at h; simp at h
  | cons c l ih =>
    intro i z hi hz h
    have hc256 : c.toNat < 256 := c.toNat_lt
    by_cases hb : (i = 9 ∧ 1 < c.toNat) ∨ (0 < i ∧ c.toNat = 0)
    · rw [decL_bad hb] at h; simp at h
    · by_cases hc : c.toNat < 128
      · rw [decL_end hb hc] at h
        simp only [Prod.mk.injEq, and_true] at h
        have e : vl (9 - i) c.toNat = [c] := by rw [vl_small _ hc]; simp
        refine ⟨c.toNat, l, by rw [e]; rfl, ?_, ?_, ?_⟩
        · rw [Nat.mod_eq_of_lt hc] at h; exact h.1.symm
        · rw [e]; simp; omega
        · omega
      · rw [decL_on hb hc] at h
        obtain ⟨u, r, rfl, h1, h2, h3⟩ := ih (i + 1) _ (by omega) (digit_next hz) h
        have hu : u ≠ 0 := by omega
        have e9 : 9 - i = (9 - (i + 1)) + 1 := by omega
        have e1 : (c.toNat % 128 + 128 * u) % 128 = c.toNat % 128 := by omega
        have e2 : (c.toNat % 128 + 128 * u) / 128 = u := by omega
        have e3 : UInt8.ofNat (c.toNat % 128 + 128) = c := by
          have : c.toNat % 128 + 128 = c.toNat := by omega
          rw [this]; simp
        have e : vl (9 - i) (c.toNat % 128 + 128 * u) = c :: vl (9 - (i + 1)) u := by
          rw [e9, vl_big _ (by omega), e1, e2, e3]
        refine ⟨c.toNat % 128 + 128 * u, r, by rw [e]; rfl, ?_, ?_, .inr (by omega)⟩
        · rw [h1]
          congr 1
          rw [Nat.pow_succ, Nat.add_mul, Nat.add_assoc, Nat.mul_comm (128 ^ i) 128, ← Nat.mul_assoc, Nat.mul_comm u 128]
        · rw [e, h2]; simp; omega

theorem decI_got {l : List UInt8} {k n m : Int} (h : decI l k = (n, m, 0)) : ∃ a r, l = a ++ (encI n ++ r) ∧ k = (a.length : Int) ∧ m = ((a ++ encI n).length : Int) := by
  by_cases hk : k < 0 ∨ (l.length : Int) < k
  · rw [decI_out hk] at h; simp at h
  · obtain ⟨j, rfl⟩ := Int.eq_ofNat_of_zero_le (show 0 ≤ k by omega)
    have hj : j ≤ l.length := by omega
    rw [decI_in hj] at h
    obtain ⟨u, r, hl, hn, hm, _⟩ := decL_got _ _ _ _ 0 0 (by omega) (by simp) h
    have hz : zz n = u := by rw [hn]; simp [zz_unzz]
    have he : encI n = vl 9 u := by unfold encI; rw [hz]
    refine ⟨l.take j, r, ?_, ?_, ?_⟩
    · rw [he, ← hl, List.take_append_drop]
    · simp; omega
    · rw [hm, he]; simp; omega

theorem decT_put (a r s : List UInt8) (most : Int) (hs : (s.length : Int) ≤ most) (hb : s.length ≤ 9223372036854775807) :
    decT (a ++ (encI s.length ++ (s ++ r))) (a.length : Int) most = (s, ((a ++ (encI s.length ++ s)).length : Int), 0) := by
  unfold decT
  rw [decI_put a (s ++ r) s.length (by omega) (by omega)]
  simp only
  rw [if_neg (by simp), if_neg (by omega), if_neg (by omega), if_neg (by simp; omega)]
  have e : (a ++ (encI s.length ++ (s ++ r))).drop ((a ++ encI s.length).length : Int).toNat = s ++ r := by
    rw [Int.toNat_natCast, ← List.append_assoc, List.drop_left]
  rw [e, Int.toNat_natCast, List.take_left]
  simp
  omega

theorem decT_got {l s : List UInt8} {k m most : Int} (h : decT l k most = (s, m, 0)) : ∃ a r, l = a ++ ((encI s.length ++ s) ++ r) ∧ k = (a.length : Int) ∧ m = ((a ++ (encI s.length ++ s)).length : Int) ∧ (s.length : Int) ≤ max most 0 := by
  have hb := decT_bd l k most
  rw [h] at hb
  simp only at hb
  unfold decT at h
  split at h
  · rename_i h0; simp at h; omega
  · rename_i h0
    split at h
    · simp at h
    · split at h
      · simp at h
      · split at h
        · simp at h
        · rename_i h1 h2 h3
          rcases hd : decI l k with ⟨n, j, e⟩
          rw [hd] at h h0 h1 h2 h3
          simp only [Prod.mk.injEq, and_true] at h h0 h1 h2 h3
          obtain rfl : e = 0 := by omega
          obtain ⟨a, r, hl, hk, hj⟩ := decI_got hd
          obtain ⟨p, rfl⟩ := Int.eq_ofNat_of_zero_le (show 0 ≤ n by omega)
          have hdrop : l.drop j.toNat = r := by rw [hj, hl, Int.toNat_natCast, ← List.append_assoc, List.drop_left]
          have hlr : l.length = (a ++ encI (p : Int)).length + r.length := by rw [hl]; simp; omega
          have hp : p ≤ r.length := by
            omega
          rw [hdrop] at h
          have hs : s.length = p := by rw [← h.1]; simp; omega
          refine ⟨a, r.drop p, ?_, hk, ?_, by omega⟩
          · rw [hl, hs, ← h.1]
            simp
          · rw [← h.2, hj, hs]; simp; omega

theorem strB_of (s : ByteArray) : strB s.data.toList = s := by
  cases s; simp [strB]
theorem decV_put (a r : List UInt8) (x : Val) (hv : validV x = true) : decV (a ++ (encV x ++ r)) (a.length : Int) = (x, ((a ++ encV x).length : Int), 0) := by
  obtain ⟨kd, i, s⟩ := x
  have e : s.data = #[] → s = ⟨#[]⟩ := fun h => by
    cases s with | mk d => simp only at h; subst h; rfl
  have hget : ∀ (c : UInt8) (q : List UInt8), (a ++ (c :: q))[a.length]? = some c := by intro c q; simp
  unfold decV
  rw [if_neg (by simp; omega)]
  rw [Int.toNat_natCast]
  unfold validV at hv
  unfold encV
  simp only at hv ⊢
  split at hv
  · rename_i h0
    subst h0
    simp at hv
    rw [e hv.2, hv.1]
    simp only [show ¬ (0 : Int) = 1 by omega, show ¬ (0 : Int) = 2 by omega, show ¬ (0 : Int) = 3 by omega, if_false]
    simp [decV1, zeroV]
  · split at hv
    · rename_i h0
      subst h0
      simp at hv
      rw [e hv.2]
      simp only [if_true]
      rw [List.cons_append, hget]
      simp only
      have hd := decI_put (a ++ [1]) r i (by omega) (by omega)
      simp only [List.append_assoc, List.cons_append, List.nil_append, List.length_append, List.length_cons, List.length_nil, Int.natCast_add] at hd
      unfold decV1
      rw [if_neg (by decide), if_pos (by decide)]
      rw [show ((a.length : Int) + (((0 : Nat) : Int) + ((1 : Nat) : Int))) = (a.length : Int) + 1 by omega] at hd
      rw [hd]
      simp only
      rw [if_neg (by simp), if_neg (by omega)]
      simp
    · split at hv
      · rename_i h0
        subst h0
        simp at hv
        rw [hv.1.1]
        simp only [show ¬ (2 : Int) = 1 by omega, if_true, if_false]
        rw [List.cons_append, hget]
        simp only
        have hsz : s.data.toList.length = s.size := by simp
        have hd := decT_put (a ++ [2]) r s.data.toList 200 (by rw [hsz]; have := hv.1.2; omega) (by rw [hsz]; have := hv.1.2; omega)
        simp only [List.append_assoc, List.cons_append, List.nil_append, List.length_append, List.length_cons, List.length_nil, Int.natCast_add, hsz] at hd
        unfold decV1
        rw [if_neg (by decide), if_neg (by decide), if_pos (by decide)]
        rw [show ((a.length : Int) + (((0 : Nat) : Int) + ((1 : Nat) : Int))) = (a.length : Int) + 1 by omega] at hd
        rw [List.append_assoc, hd]
        simp only
        rw [if_neg (by simp), if_neg (by rw [hv.2]; simp), strB_of]
        simp
      · split at hv
        · rename_i h0
          subst h0
          simp at hv
          rw [e hv.2]
          simp only [show ¬ (3 : Int) = 1 by omega, show ¬ (3 : Int) = 2 by omega, if_true, if_false]
          rcases hv.1 with rfl | rfl
          · simp [decV1]
          · simp [decV1]
        · cases hv

theorem decV_got {l : List UInt8} {k m : Int} {x : Val} (h : decV l k = (x, m, 0)) : ∃ a r, l = a ++ (encV x ++ r) ∧ k = (a.length : Int) ∧ m = ((a ++ encV x).length : Int) ∧ validV x = true := by
  unfold decV at h
  split at h
  · simp at h
  · rename_i h0
    obtain ⟨j, rfl⟩ := Int.eq_ofNat_of_zero_le (show 0 ≤ k by omega)
    simp only [Int.toNat_natCast] at h h0
    cases hg : l[j]? with
    | none => rw [hg] at h; simp at h
    | some c =>
      rw [hg] at h
      simp only at h
      have hj : j < l.length := (List.getElem?_eq_some_iff.mp hg).1
      have hc : l[j] = c := (List.getElem?_eq_some_iff.mp hg).2
      have hl : l = l.take j ++ (c :: l.drop (j + 1)) := by
        rw [← hc, List.getElem_cons_drop, List.take_append_drop]
      have hlen : (l.take j).length = j := by simp; omega
      have hc2 : ∀ n : Nat, n < 256 → c.toNat = n → c = UInt8.ofNat n := fun n hn h => by rw [← h]; simp
      unfold decV1 at h
      split at h
      · rename_i hz
        simp only [Prod.mk.injEq, and_true] at h
        obtain ⟨rfl, rfl⟩ := h
        have := hc2 0 (by omega) hz
        refine ⟨l.take j, l.drop (j + 1), ?_, by rw [hlen], by simp [encV, zeroV]; omega, rfl⟩
        rw [this] at hl
        exact hl
      · split at h
        · rename_i hz
          split at h
          · rename_i he; simp at h; omega
          · split at h
            · simp at h
            · rename_i h1 h2
              rcases hd : decI l ((j : Int) + 1) with ⟨n, q, e⟩
              rw [hd] at h h1 h2
              simp only [Prod.mk.injEq, and_true] at h h1 h2
              obtain ⟨rfl, rfl⟩ := h
              obtain rfl : e = 0 := by omega
              obtain ⟨a, r, hl2, hk, hq⟩ := decI_got hd
              have ha : a = l.take j ++ [1] := by
                have e1 : a = l.take a.length := by conv => rhs; rw [hl2, List.take_left]
                have e2 : a.length = j + 1 := by omega
                rw [e1, e2, List.take_succ_eq_append_getElem hj, hc, hc2 1 (by omega) hz]
                rfl
              refine ⟨l.take j, r, ?_, by rw [hlen], ?_, ?_⟩
              · conv => lhs; rw [hl2, ha]
                simp [encV]
              · rw [hq, ha]; simp [encV]
              · simp [validV]; omega
        · split at h
          · rename_i hz
            split at h
            · rename_i he; simp at h; omega
            · split at h
              · simp at h
              · rename_i h1 h2
                rcases hd : decT l ((j : Int) + 1) 200 with ⟨s, q, e⟩
                rw [hd] at h h1 h2
                simp only [Prod.mk.injEq, and_true] at h h1 h2
                obtain ⟨rfl, rfl⟩ := h
                obtain rfl : e = 0 := by omega
                obtain ⟨a, r, hl2, hk, hq, hs⟩ := decT_got hd
                have ha : a = l.take j ++ [2] := by
                  have e1 : a = l.take a.length := by conv => rhs; rw [hl2, List.take_left]
                  have e2 : a.length = j + 1 := by omega
                  rw [e1, e2, List.take_succ_eq_append_getElem hj, hc, hc2 2 (by omega) hz]
                  rfl
                have hsz : (strB s).size = s.length := strB_size s
                have hst : (strB s).data.toList = s := by simp [strB]
                refine ⟨l.take j, r, ?_, by rw [hlen], ?_, ?_⟩
                · conv => lhs; rw [hl2, ha]
                  simp only [encV, hsz, hst]
                  simp
                · rw [hq, ha]
                  simp only [encV, hsz, hst]
                  simp
                · rw [validV_text (by omega)]
                  cases hp : printB s
                  · exact absurd hp h2
                  · rfl
          · split at h
            · rename_i hz
              simp only [Prod.mk.injEq, and_true] at h
              obtain ⟨rfl, rfl⟩ := h
              refine ⟨l.take j, l.drop (j + 1), ?_, by rw [hlen], by simp [encV]; omega, ?_⟩
              · conv => lhs; rw [hl]
                rcases hz with hz | hz
                · rw [hc2 3 (by omega) hz]; rfl
                · rw [hc2 4 (by omega) hz]; rfl
              · rcases hz with hz | hz <;> rw [hz] <;> rfl
            · simp at h

theorem decVs_put (r : List UInt8) : ∀ (xs acc : List Val) (a : List UInt8), xs.all validV = true →
    decVs (a ++ (encVs xs ++ r)) xs.length (a.length : Int) acc = (acc ++ xs, ((a ++ encVs xs).length : Int), 0) := by
  intro xs
  induction xs with
  | nil => intro acc a _; simp [decVs, encVs]
  | cons x xs ih =>
    intro acc a hv
    rw [List.all_cons, Bool.and_eq_true] at hv
    have e : a ++ (encVs (x :: xs) ++ r) = a ++ (encV x ++ (encVs xs ++ r)) := by simp [encVs]
    have h1 := decV_put a (encVs xs ++ r) x hv.1
    rw [List.length_cons, decVs, e, h1]
    simp only
    rw [if_neg (by simp)]
    have h2 := ih (acc ++ [x]) (a ++ encV x) hv.2
    rw [List.append_assoc a (encV x)] at h2
    rw [h2]
    simp [encVs]
theorem decVs_got {l : List UInt8} : ∀ (n : Nat) (k m : Int) (acc ys : List Val), decVs l n k acc = (ys, m, 0) → 0 ≤ k → k ≤ l.length →
    ∃ xs a r, ys = acc ++ xs ∧ xs.length = n ∧ l = a ++ (encVs xs ++ r) ∧ k = (a.length : Int) ∧ m = ((a ++ encVs xs).length : Int) ∧ xs.all validV = true := by
  intro n
  induction n with
  | zero =>
    intro k m acc ys h h0 h1
    simp only [decVs, Prod.mk.injEq, and_true] at h
    obtain ⟨rfl, rfl⟩ := h
    refine ⟨[], l.take k.toNat, l.drop k.toNat, by simp, rfl, by simp [encVs], ?_, ?_, rfl⟩
    · simp; omega
    · simp [encVs]; omega
  | succ n ih =>
    intro k m acc ys h h0 h1
    rw [decVs] at h
    rcases hd : decV l k with ⟨x, q, e⟩
    rw [hd] at h
    simp only at h
    split at h
    · rename_i he; simp at h; omega
    · rename_i he
      obtain rfl : e = 0 := by omega
      obtain ⟨a, r, hl, hk, hq, hv⟩ := decV_got hd
      obtain ⟨xs, b, r', hys, hn, hl2, hq2, hm, hvs⟩ := ih q m _ _ h (by omega) (by rw [hq, hl]; simp; omega)
      have hb : b = a ++ encV x := by
        have e1 : b = l.take b.length := by conv => rhs; rw [hl2, List.take_left]
        have e2 : b.length = (a ++ encV x).length := by omega
        rw [e1, e2, hl, ← List.append_assoc, List.take_left]
      refine ⟨x :: xs, a, r', by rw [hys]; simp, by simp [hn], ?_, hk, ?_, ?_⟩
      · rw [hl2, hb]; simp [encVs]
      · rw [hm, hb]; simp [encVs]
      · rw [List.all_cons, hv, hvs]; rfl

theorem decR_put (a r : List UInt8) (xs : List Val) (hv : xs.all validV = true) (hn : xs.length ≤ 12) :
    decR (a ++ (encR xs ++ r)) (a.length : Int) = (xs, ((a ++ encR xs).length : Int), 0) := by
  unfold decR encR
  rw [List.append_assoc, decI_put a (encVs xs ++ r) xs.length (by omega) (by omega)]
  simp only
  rw [if_neg (by simp), if_neg (by omega), if_neg (by omega)]
  have h := decVs_put r xs [] (a ++ encI xs.length) hv
  rw [Int.toNat_natCast, ← List.append_assoc a, h]
  simp
theorem decR_got {l : List UInt8} {k m : Int} {ys : List Val} (h : decR l k = (ys, m, 0)) :
    ∃ a r, l = a ++ (encR ys ++ r) ∧ k = (a.length : Int) ∧ m = ((a ++ encR ys).length : Int) ∧ ys.all validV = true ∧ ys.length ≤ 12 := by
  unfold decR at h
  split at h
  · rename_i he; simp at h; omega
  · split at h
    · simp at h
    · split at h
      · simp at h
      · rename_i h1 h2 h3
        rcases hd : decI l k with ⟨n, q, e⟩
        rw [hd] at h h1 h2 h3
        simp only at h h1 h2 h3
        obtain rfl : e = 0 := by omega
        obtain ⟨a, r, hl, hk, hq⟩ := decI_got hd
        obtain ⟨xs, b, r', hys, hn, hl2, hq2, hm, hvs⟩ := decVs_got _ _ _ _ _ h (by omega) (by rw [hq, hl]; simp; omega)
        have hb : b = a ++ encI n := by
          have e1 : b = l.take b.length := by conv => rhs; rw [hl2, List.take_left]
          have e2 : b.length = (a ++ encI n).length := by omega
          rw [e1, e2, hl, ← List.append_assoc, List.take_left]
        rw [List.nil_append] at hys
        subst hys
        have hnn : n = (ys.length : Int) := by omega
        refine ⟨a, r', ?_, hk, ?_, hvs, by omega⟩
        · rw [hl2, hb, hnn]; simp [encR]
        · rw [hm, hb, hnn]; simp [encR]

theorem decP_got {l : List UInt8} {k f t m : Int} (h : decP l k = ((f, t), m, 0)) :
    ∃ a r, l = a ++ ((encI f ++ encI t) ++ r) ∧ k = (a.length : Int) ∧ m = ((a ++ (encI f ++ encI t)).length : Int) ∧ validP f t = true := by
  unfold decP at h
  split at h
  · rename_i he; simp at h; omega
  · split at h
    · rename_i he; simp at h; omega
    · split at h
      · simp at h
      · rename_i h1 h2 h3
        rcases hd : decI l k with ⟨n, q, e⟩
        rw [hd] at h h1 h2 h3
        simp only at h h1 h2 h3
        rcases hd2 : decI l q with ⟨n2, q2, e2⟩
        rw [hd2] at h h2 h3
        simp only [Prod.mk.injEq, and_true] at h h1 h2 h3
        obtain rfl : e = 0 := by omega
        obtain rfl : e2 = 0 := by omega
        obtain ⟨⟨rfl, rfl⟩, rfl⟩ := h
        obtain ⟨a, r, hl, hk, hq⟩ := decI_got hd
        obtain ⟨b, r', hl2, hq2, hm⟩ := decI_got hd2
        have hb : b = a ++ encI n := by
          have e1 : b = l.take b.length := by conv => rhs; rw [hl2, List.take_left]
          have e2 : b.length = (a ++ encI n).length := by omega
          rw [e1, e2, hl, ← List.append_assoc, List.take_left]
        refine ⟨a, r', ?_, hk, ?_, by cases hp : validP n n2 <;> simp_all⟩
        · rw [hl2, hb]; simp
        · rw [hm, hb]; simp
end Go.Proofs.Ythfclmkeadpcbaa
