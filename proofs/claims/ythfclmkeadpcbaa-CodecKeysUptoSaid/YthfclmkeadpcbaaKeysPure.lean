/-
  Keys are ordered as the rows of values are: plain Lean, no program.
-/
import Derived.Test.YthfclmkeadpcbaaCodecI
namespace Go.Proofs.Ythfclmkeadpcbaa
open Go.Op

theorem bl_cons (a b : UInt8) (x y : List UInt8) : bytesLess (a :: x) (b :: y) = true ↔ a.toNat < b.toNat ∨ (a.toNat = b.toNat ∧ bytesLess x y = true) := by
  rw [bytesLess, Bool.or_eq_true, Bool.and_eq_true, decide_eq_true_eq, beq_iff_eq, UInt8.lt_iff_toNat_lt, UInt8.toNat_inj]
theorem bl_append (p a b : List UInt8) : bytesLess (p ++ a) (p ++ b) = bytesLess a b := by
  induction p with
  | nil => rfl
  | cons c p ih =>
    rw [Bool.eq_iff_iff, List.cons_append, List.cons_append, bl_cons]
    simp [ih]
theorem bl_irrefl (a : List UInt8) : bytesLess a a = false := by
  have h := bl_append a [] []
  rw [List.append_nil] at h
  rw [h]; rfl
theorem bl_asymm : ∀ {a b : List UInt8}, bytesLess a b = true → bytesLess b a = false
  | [], [], h => by cases h
  | _ :: _, [], h => by cases h
  | [], _ :: _, _ => rfl
  | a :: x, b :: y, h => by
    rw [bl_cons] at h
    rw [← Bool.not_eq_true, bl_cons]
    rcases h with h | ⟨h, h2⟩
    · omega
    · have := bl_asymm h2
      rw [this]
      simp
      omega
theorem bl_total : ∀ {a b : List UInt8}, bytesLess a b = false → a ≠ b → bytesLess b a = true
  | [], [], _, h => absurd rfl h
  | _ :: _, [], _, _ => rfl
  | [], _ :: _, h, _ => by cases h
  | a :: x, b :: y, h, hne => by
    rw [← Bool.not_eq_true, bl_cons] at h
    rw [bl_cons]
    by_cases hab : a.toNat = b.toNat
    · refine .inr ⟨hab.symm, bl_total ?_ ?_⟩
      · rw [← Bool.not_eq_true]; intro h2; exact h (.inr ⟨hab, h2⟩)
      · intro h2; subst h2; rw [UInt8.toNat_inj] at hab; subst hab; exact hne rfl
    · exact .inl (by omega)
/-- what compare says of two sequences of bytes -/
def cmpB (a b : List UInt8) : Int := if bytesLess a b = true then -1 else if a = b then 0 else 1
theorem cmpB_lt {a b : List UInt8} (h : bytesLess a b = true) : cmpB a b = -1 := by rw [cmpB, if_pos h]
theorem cmpB_gt {a b : List UInt8} (h : bytesLess b a = true) : cmpB a b = 1 := by
  rw [cmpB, if_neg (by rw [bl_asymm h]; simp), if_neg]
  intro e; subst e; rw [bl_irrefl] at h; cases h
theorem cmpB_append (p a b : List UInt8) : cmpB (p ++ a) (p ++ b) = cmpB a b := by
  unfold cmpB; rw [bl_append]; simp

def ltV (x y : Val) : Bool := decide (x.kind < y.kind ∨ (x.kind = y.kind ∧ x.int < y.int) ∨ (x.kind = y.kind ∧ x.int = y.int ∧ bytesLess x.text.data.toList y.text.data.toList = true))
theorem ltV_iff (x y : Val) : ltV x y = true ↔ (x.kind < y.kind ∨ (x.kind = y.kind ∧ x.int < y.int) ∨ (x.kind = y.kind ∧ x.int = y.int ∧ bytesLess x.text.data.toList y.text.data.toList = true)) := by unfold ltV; rw [decide_eq_true_eq]
theorem data_inj {a b : ByteArray} (h : a.data.toList = b.data.toList) : a = b := by
  rw [← strB_list a, ← strB_list b, h]
theorem val_ext {x y : Val} (h1 : x.kind = y.kind) (h2 : x.int = y.int) (h3 : x.text.data.toList = y.text.data.toList) : x = y := by
  obtain ⟨a, b, c⟩ := x
  obtain ⟨a', b', c'⟩ := y
  simp only at h1 h2 h3
  rw [h1, h2, data_inj h3]
theorem ltV_total {x y : Val} (h : ¬ ltV x y = true) (hne : x ≠ y) : ltV y x = true := by
  rw [ltV_iff] at h ⊢
  by_cases hk : x.kind = y.kind
  · by_cases hi : x.int = y.int
    · refine .inr (.inr ⟨hk.symm, hi.symm, bl_total ?_ fun ht => hne (val_ext hk hi ht)⟩)
      rw [← Bool.not_eq_true]; intro h2; exact h (.inr (.inr ⟨hk, hi, h2⟩))
    · refine .inr (.inl ⟨hk.symm, ?_⟩)
      have : ¬ x.int < y.int := fun h2 => h (.inr (.inl ⟨hk, h2⟩))
      omega
  · refine .inl ?_
    have : ¬ x.kind < y.kind := fun h2 => h (.inl h2)
    omega

theorem byte_nat (u : Nat) : (UInt8.ofNat (u % 256)).toNat = u % 256 := by simp [UInt8.toNat_ofNat']
theorem be8_q (u : Nat) : be8 u = [UInt8.ofNat (u / 256 / 256 / 256 / 256 / 256 / 256 / 256 % 256), UInt8.ofNat (u / 256 / 256 / 256 / 256 / 256 / 256 % 256), UInt8.ofNat (u / 256 / 256 / 256 / 256 / 256 % 256), UInt8.ofNat (u / 256 / 256 / 256 / 256 % 256), UInt8.ofNat (u / 256 / 256 / 256 % 256), UInt8.ofNat (u / 256 / 256 % 256), UInt8.ofNat (u / 256 % 256), UInt8.ofNat (u % 256)] := by
  simp [be8, Nat.div_div_eq_div_mul]
theorem be8_lt {u v : Nat} (r s : List UInt8) (h : u < v) (hv : v < 18446744073709551616) : bytesLess (be8 u ++ r) (be8 v ++ s) = true := by
  rw [be8_q, be8_q]
  simp only [List.cons_append, List.nil_append, bl_cons, byte_nat]
  have e1 : u / 256 ≤ v / 256 := Nat.div_le_div_right (by omega)
  have e2 : u / 256 / 256 ≤ v / 256 / 256 := Nat.div_le_div_right e1
  have e3 : u / 256 / 256 / 256 ≤ v / 256 / 256 / 256 := Nat.div_le_div_right e2
  have e4 : u / 256 / 256 / 256 / 256 ≤ v / 256 / 256 / 256 / 256 := Nat.div_le_div_right e3
  have e5 : u / 256 / 256 / 256 / 256 / 256 ≤ v / 256 / 256 / 256 / 256 / 256 := Nat.div_le_div_right e4
  have e6 : u / 256 / 256 / 256 / 256 / 256 / 256 ≤ v / 256 / 256 / 256 / 256 / 256 / 256 := Nat.div_le_div_right e5
  have e7 : u / 256 / 256 / 256 / 256 / 256 / 256 / 256 ≤ v / 256 / 256 / 256 / 256 / 256 / 256 / 256 := Nat.div_le_div_right e6
  have e8 : v / 256 / 256 / 256 / 256 / 256 / 256 / 256 < 256 := by omega
  generalize h7u : u / 256 / 256 / 256 / 256 / 256 / 256 / 256 = u7 at *
  generalize h7v : v / 256 / 256 / 256 / 256 / 256 / 256 / 256 = v7 at *
  generalize h6u : u / 256 / 256 / 256 / 256 / 256 / 256 = u6 at *
  generalize h6v : v / 256 / 256 / 256 / 256 / 256 / 256 = v6 at *
  generalize h5u : u / 256 / 256 / 256 / 256 / 256 = u5 at *
  generalize h5v : v / 256 / 256 / 256 / 256 / 256 = v5 at *
  generalize h4u : u / 256 / 256 / 256 / 256 = u4 at *
  generalize h4v : v / 256 / 256 / 256 / 256 = v4 at *
  generalize h3u : u / 256 / 256 / 256 = u3 at *
  generalize h3v : v / 256 / 256 / 256 = v3 at *
  generalize h2u : u / 256 / 256 = u2 at *
  generalize h2v : v / 256 / 256 = v2 at *
  generalize h1u : u / 256 = u1 at *
  generalize h1v : v / 256 = v1 at *
  by_cases c7 : u7 = v7
  · refine .inr ⟨by omega, ?_⟩
    by_cases c6 : u6 = v6
    · refine .inr ⟨by omega, ?_⟩
      by_cases c5 : u5 = v5
      · refine .inr ⟨by omega, ?_⟩
        by_cases c4 : u4 = v4
        · refine .inr ⟨by omega, ?_⟩
          by_cases c3 : u3 = v3
          · refine .inr ⟨by omega, ?_⟩
            by_cases c2 : u2 = v2
            · refine .inr ⟨by omega, ?_⟩
              by_cases c1 : u1 = v1
              · exact .inr ⟨by omega, .inl (by omega)⟩
              · exact .inl (by omega)
            · exact .inl (by omega)
          · exact .inl (by omega)
        · exact .inl (by omega)
      · exact .inl (by omega)
    · exact .inl (by omega)
  · exact .inl (by omega)
theorem text_lt {a b : List UInt8} (r s : List UInt8) (hb : ∀ c ∈ b, 32 ≤ c.toNat) (h : bytesLess a b = true) : bytesLess (a ++ 0 :: r) (b ++ 0 :: s) = true := by
  induction a generalizing b with
  | nil =>
    cases b with
    | nil => cases h
    | cons c b =>
      rw [List.nil_append, List.cons_append, bl_cons]
      have := hb c (List.mem_cons_self ..)
      exact .inl (by show (0 : UInt8).toNat < _; simp; omega)
  | cons d a ih =>
    cases b with
    | nil => cases h
    | cons c b =>
      rw [bl_cons] at h
      rw [List.cons_append, List.cons_append, bl_cons]
      rcases h with h | ⟨h, h2⟩
      · exact .inl h
      · exact .inr ⟨h, ih (fun c hc => hb c (List.mem_cons_of_mem _ hc)) h2⟩

/-- what a valid value is -/
theorem valid_forms {x : Val} (h : validV x = true) :
    (x.kind = 0 ∧ x.int = 0 ∧ x.text.data.toList = []) ∨ (x.kind = 1 ∧ -1125899906842624 ≤ x.int ∧ x.int ≤ 1125899906842624 ∧ x.text.data.toList = []) ∨
    (x.kind = 2 ∧ x.int = 0 ∧ x.text.size ≤ 200 ∧ ∀ c ∈ x.text.data.toList, 32 ≤ c.toNat) ∨ (x.kind = 3 ∧ (x.int = 0 ∨ x.int = 1) ∧ x.text.data.toList = []) := by
  unfold validV at h
  split at h
  · rename_i hk
    simp at h
    exact .inl ⟨hk, h.1, by simpa using h.2⟩
  · split at h
    · rename_i hk
      simp at h
      exact .inr (.inl ⟨hk, h.1.1, h.1.2, by simpa using h.2⟩)
    · split at h
      · rename_i hk
        simp only [Bool.and_eq_true, beq_iff_eq, decide_eq_true_eq] at h
        refine .inr (.inr (.inl ⟨hk, h.1.1, h.1.2, fun c hc => ?_⟩))
        have := h.2
        unfold printB at this
        rw [List.all_eq_true] at this
        have := this c hc
        simp [UInt8.le_iff_toNat_le] at this
        omega
      · split at h
        · rename_i hk
          simp at h
          exact .inr (.inr (.inr ⟨hk, h.1, by simpa using h.2⟩))
        · cases h
theorem keyV0 {x : Val} (h : x.kind = 0) : keyV x = [1] := by simp [keyV, h]
theorem keyV1 {x : Val} (h : x.kind = 1) : keyV x = 2 :: be8 (x.int + 9223372036854775808).toNat := by simp [keyV, h]
theorem keyV2 {x : Val} (h : x.kind = 2) : keyV x = 3 :: (x.text.data.toList ++ [0]) := by simp [keyV, h]
theorem keyV3 {x : Val} (h : x.kind = 3) : keyV x = [4, UInt8.ofNat (x.int % 256).toNat] := by simp [keyV, h]
theorem key_lt {x y : Val} (r s : List UInt8) (hx : validV x = true) (hy : validV y = true) (h : ltV x y = true) : bytesLess (keyV x ++ r) (keyV y ++ s) = true := by
  rw [ltV_iff] at h
  rcases valid_forms hx with ⟨k, i, t⟩ | ⟨k, i, i', t⟩ | ⟨k, i, z, t⟩ | ⟨k, i, t⟩ <;> rcases valid_forms hy with ⟨k', j, t'⟩ | ⟨k', j, j', t'⟩ | ⟨k', j, z', t'⟩ | ⟨k', j, t'⟩
  · rw [t, t', bl_irrefl] at h; simp only [Bool.false_eq_true, and_false, or_false] at h; omega
  · rw [keyV0 k, keyV1 k']; rfl
  · rw [keyV0 k, keyV2 k']; rfl
  · rw [keyV0 k, keyV3 k']; rfl
  · omega
  · rw [keyV1 k, keyV1 k', List.cons_append, List.cons_append, bl_cons]
    refine .inr ⟨rfl, be8_lt r s ?_ (by omega)⟩
    rw [t, t', bl_irrefl] at h
    simp only [Bool.false_eq_true, and_false, or_false] at h
    omega
  · rw [keyV1 k, keyV2 k']; rfl
  · rw [keyV1 k, keyV3 k']; rfl
  · omega
  · omega
  · rw [keyV2 k, keyV2 k', List.cons_append, List.cons_append, bl_cons, List.append_assoc, List.append_assoc]
    refine .inr ⟨rfl, text_lt r s t' ?_⟩
    rcases h with h | h | h
    · omega
    · omega
    · exact h.2.2
  · rw [keyV2 k, keyV3 k']; rfl
  · omega
  · omega
  · omega
  · rw [t, t', bl_irrefl] at h
    simp only [Bool.false_eq_true, and_false, or_false] at h
    have i0 : x.int = 0 := by omega
    have i1 : y.int = 1 := by omega
    rw [keyV3 k, keyV3 k', i0, i1]
    rfl
def cmpR : List Val → List Val → Int
  | [], [] => 0
  | [], _ :: _ => -1
  | _ :: _, [] => 1
  | x :: xs, y :: ys => if ltV x y = true then -1 else if x.kind = y.kind ∧ x.int = y.int ∧ x.text.data.toList = y.text.data.toList then cmpR xs ys else 1
theorem keyV_cons (x : Val) : ∃ c l, keyV x = c :: l := by
  unfold keyV
  split
  · exact ⟨_, _, rfl⟩
  · split
    · exact ⟨_, _, rfl⟩
    · split
      · exact ⟨_, _, rfl⟩
      · exact ⟨_, _, rfl⟩
theorem key_order : ∀ {xs ys : List Val}, xs.all validV = true → ys.all validV = true → cmpB (keyR xs) (keyR ys) = cmpR xs ys
  | [], [], _, _ => rfl
  | [], y :: ys, _, _ => by
    obtain ⟨c, l, h⟩ := keyV_cons y
    exact cmpB_lt (by rw [keyR, keyR, List.flatMap_cons, h]; rfl)
  | x :: xs, [], _, _ => by
    obtain ⟨c, l, h⟩ := keyV_cons x
    exact cmpB_gt (by rw [keyR, keyR, List.flatMap_cons, h]; rfl)
  | x :: xs, y :: ys, hx, hy => by
    rw [List.all_cons, Bool.and_eq_true] at hx hy
    have ih := key_order hx.2 hy.2
    have ex : keyR (x :: xs) = keyV x ++ keyR xs := by rw [keyR, List.flatMap_cons]; rfl
    have ey : keyR (y :: ys) = keyV y ++ keyR ys := by rw [keyR, List.flatMap_cons]; rfl
    rw [ex, ey, cmpR]
    by_cases hlt : ltV x y = true
    · rw [if_pos hlt]; exact cmpB_lt (key_lt _ _ hx.1 hy.1 hlt)
    · rw [if_neg hlt]
      by_cases he : x.kind = y.kind ∧ x.int = y.int ∧ x.text.data.toList = y.text.data.toList
      · rw [if_pos he]
        obtain rfl := val_ext he.1 he.2.1 he.2.2
        rw [cmpB_append]
        exact ih
      · rw [if_neg he]
        exact cmpB_gt (key_lt _ _ hy.1 hx.1 (ltV_total hlt fun e => he (by subst e; exact ⟨rfl, rfl, rfl⟩)))
theorem key_app (xs ys : List Val) : keyR (xs ++ ys) = keyR xs ++ keyR ys := by simp [keyR]
end Go.Proofs.Ythfclmkeadpcbaa
