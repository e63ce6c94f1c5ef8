/-
  A tree that lies above what was there; the trial of the package.
-/
import Derived.Test.YtkocehfapcmiiaaTreeL
namespace Go.Proofs.Ytkocehfapcmiiaa
open Go.RowKit Go.Lib Go.IntWalk

theorem Tr.Ok.small : ∀ {t : Tr}, t.Ok → (1 ≤ t.ht → 1 ≤ t.items.length) ∧ (2 ≤ t.ht → 2 ≤ t.items.length) ∧ (3 ≤ t.ht → 4 ≤ t.items.length)
  | .nil, _ => by simp [Tr.ht]
  | .node b x l r h e, ⟨h1, h2, h3, h4, hl, hr⟩ => by
    have a := Tr.Ok.small hl
    have b := Tr.Ok.small hr
    rw [Tr.ht_node, Tr.items_node, List.length_append, List.length_cons]
    omega
theorem Tr.Ok.three {t : Tr} (h : t.Ok) (hl : t.items.length = 3) : t.ht = 2 := by
  have h1 := h.small
  have h2 := h.pow.1
  have h0 := h.nonneg
  rw [hl] at h2
  have : ¬ t.ht ≤ 1 := by
    intro hh
    have : t.ht.toNat = 0 ∨ t.ht.toNat = 1 := by omega
    rcases this with e | e <;> rw [e] at h2 <;> revert h2 <;> decide
  omega
/-- a tree whose blocks lie from B on, in a world that has what w0 has below B -/
def Mine (B : Nat) (w0 w : World) (T : Nat) (t : Tr) : Prop := TreeIs w T t ∧ (∀ i, fp T t i → B ≤ i) ∧ Below B w0 w ∧ B ≤ w.heap.size
theorem Mine.ok {B : Nat} {w0 w : World} {T : Nat} {t : Tr} (h : Mine B w0 w T t) : t.Ok := h.1.2.2.2.2.1
theorem Mine.srt {B : Nat} {w0 w : World} {T : Nat} {t : Tr} (h : Mine B w0 w T t) : srtI t.items := h.1.2.2.2.2.2
theorem Mine.below {B : Nat} {w0 w w' : World} {T : Nat} {t : Tr} (h : Mine B w0 w T t) (hb : Below w.heap.size w w') : Mine B w0 w' T t :=
  ⟨h.1.below hb, h.2.1, h.2.2.1.trans (hb.mono h.2.2.2), Nat.le_trans h.2.2.2 hb.size⟩
theorem Mine.drew {B : Nat} {w0 w : World} {T : Nat} {t : Tr} (h : Mine B w0 w T t) : Mine B w0 w.drew T t := h.below (Below.refl _ _).drew
/-- another tree's operation -/
theorem Mine.chg {B : Nat} {w0 w w' : World} {T T' : Nat} {t t' : Tr} (h : Mine B w0 w T t) (h' : Mine B w0 w T' t') (hc : Chg (fp T' t') w w') (hd : ∀ i, fp T t i → ¬ fp T' t' i) : Mine B w0 w' T t :=
  ⟨h.1.chg hc hd, h.2.1, h.2.2.1.trans (hc.below h.2.2.2 h'.2.1), Nat.le_trans h.2.2.2 hc.size⟩
theorem Tr.At.type {w : World} : ∀ {t : Tr}, t.At w → ∀ b ∈ t.blocks, ∃ cs, w.heap[b]? = some (.cells cs 69 (0, 0))
  | .node b x l r h e, ⟨h1, h2, h3⟩, c, hc => by
    rw [Tr.blocks_node] at hc
    rcases List.mem_cons.1 hc with rfl | hc
    · exact ⟨_, h1⟩
    · rcases List.mem_append.1 hc with hc | hc
      · exact h2.type _ hc
      · exact h3.type _ hc
/-- a row of items is no part of a tree -/
theorem Mine.apart {B : Nat} {w0 w : World} {T : Nat} {t : Tr} (h : Mine B w0 w T t) : ∀ b, CR B w b → ¬ fp T t b := by
  intro b hb hf
  have h1 := h.2.1 b hf
  rcases hb with hb | ⟨cs, hb⟩
  · omega
  · rcases hf with rfl | hf
    · have h2 := h.1.1
      rw [hb] at h2
      injection h2 with h2
      injection h2 with _ h2 _
      exact absurd h2 (by decide)
    · obtain ⟨cs', h2⟩ := h.1.2.1.type b hf
      rw [hb] at h2
      injection h2 with h2
      injection h2 with _ h2 _
      exact absurd h2 (by decide)
def OpM (B : Nat) (w0 : World) (T : Nat) (t : Tr) (l : List It) (v : Bool) (w1 : World) (e : Ending) (w : World) : Prop :=
  e = .returned (.bool v) ∧ ∃ t' : Tr, t'.items = l ∧ Mine B w0 w T t' ∧ Chg (fp T t) w1 w ∧ (∀ i, fp T t' i → fp T t i ∨ w1.heap.size ≤ i)
theorem OpOut.mine {B : Nat} {w0 w1 w : World} {T : Nat} {t : Tr} {l : List It} {v : Bool} {e : Ending} (h : OpOut T t l v w1 e w) (hm : Mine B w0 w1 T t) : OpM B w0 T t l v w1 e w := by
  obtain ⟨t', he, h1, h2, h3, h4⟩ := h
  refine ⟨he, t', h2, ⟨h1, ?_, hm.2.2.1.trans (h3.below hm.2.2.2 hm.2.1), Nat.le_trans hm.2.2.2 h3.size⟩, h3, h4⟩
  intro i hi
  rcases h4 i hi with h | h
  · exact hm.2.1 i h
  · exact Nat.le_trans hm.2.2.2 h
theorem tnew_m {B : Nat} {w0 w : World} (h : Below B w0 w) (hB : B ≤ w.heap.size) :
    Calls Try.prog 10 #[] w fun e w' => e = .returned (.pointer (some ⟨w.heap.size, 0, none⟩)) ∧ Mine B w0 w' w.heap.size .nil ∧ Below w.heap.size w w' := by
  refine (tnew_any w).mono ?_
  rintro e w' ⟨he, ht, hb⟩
  refine ⟨he, ⟨ht, ?_, h.trans (hb.mono hB), Nat.le_trans hB hb.size⟩, hb⟩
  rintro i (rfl | hi)
  · exact hB
  · cases hi
theorem tadd_m {B : Nat} {w0 w : World} {T : Nat} {t : Tr} (p q id : Int) (l r : List It) (v : Bool) (h : Mine B w0 w T t) (hi : t.items = l) (hl : l.length ≤ 1099511620000) (hr : addF ⟨p, q, id⟩ l = r) (hv : addB ⟨p, q, id⟩ l = v) :
    Calls Try.prog 11 #[.pointer (some ⟨T, 0, none⟩), perV p q, .int .i64 id] w (OpM B w0 T t r v w) := by
  subst hi; subst hr; subst hv
  exact (tadd_any T t p q id w h.1 hl).mono fun e w' h' => h'.mine h
theorem trem_m {B : Nat} {w0 w : World} {T : Nat} {t : Tr} (p q id : Int) (l r : List It) (v : Bool) (h : Mine B w0 w T t) (hi : t.items = l) (hl : l.length ≤ 1099511620000) (hr : remF ⟨p, q, id⟩ l = r) (hv : decide ((⟨p, q, id⟩ : It) ∈ l) = v) :
    Calls Try.prog 19 #[.pointer (some ⟨T, 0, none⟩), perV p q, .int .i64 id] w (OpM B w0 T t r v w) := by
  subst hi; subst hr; subst hv
  exact (trem_any T t p q id w h.1 hl).mono fun e w' h' => h'.mine h
def IntsM (l : List Int) (w0 : World) (e : Ending) (w : World) : Prop := ∃ A c, e = .returned (.slice A l.length c) ∧ Hid (A = none → c = 0) ∧ l.length ≤ c ∧ c ≤ maxLen ∧ OwnI w w0.heap.size (.slice A l.length c) l ∧ Below w0.heap.size w0 w
theorem OvlOut.m {l : List Int} {w0 w : World} {e : Ending} (h : OvlOut l w0 e w) : IntsM l w0 e w := by
  obtain ⟨v, rfl, hO, hb⟩ := h
  obtain ⟨A, c, rfl, c1, c2, c3⟩ := hO.open_
  exact ⟨A, c, rfl, Lib.hid c3, c1, c2, hO, hb⟩
theorem tovl_m {B : Nat} {w0 w : World} {T : Nat} {t : Tr} (p q : Int) (l : List It) (r : List Int) (h : Mine B w0 w T t) (hi : t.items = l) (hl : l.length ≤ 1099511620000) (hr : ovlF p q l = r) :
    Calls Try.prog 12 #[.pointer (some ⟨T, 0, none⟩), perV p q] w (IntsM r w) := by
  subst hi; subst hr
  exact (tovl_any T t p q w h.1 hl).mono fun e w' h' => h'.m
theorem tstab_m {B : Nat} {w0 w : World} {T : Nat} {t : Tr} (p : Int) (l : List It) (r : List Int) (h : Mine B w0 w T t) (hi : t.items = l) (hl : l.length ≤ 1099511620000) (hr : ovlF p (p + 1) l = r) :
    Calls Try.prog 14 #[.pointer (some ⟨T, 0, none⟩), .int .i64 p] w (IntsM r w) := by
  subst hi; subst hr
  exact (tstab_any T t p w h.1 hl).mono fun e w' h' => h'.m
theorem tlen_m {B : Nat} {w0 w : World} {T : Nat} {t : Tr} (h : Mine B w0 w T t) (n : Int) (hn : (t.items.length : Int) = n) : Calls Try.prog 20 #[.pointer (some ⟨T, 0, none⟩)] w fun e w' => e = .returned (.int .i64 n) ∧ w = w' := by
  subst hn
  exact tlen_any T t w h.1
theorem theight_m {B : Nat} {w0 w : World} {T : Nat} {t : Tr} (h : Mine B w0 w T t) (n : Int) (hn : t.ht = n) : Calls Try.prog 21 #[.pointer (some ⟨T, 0, none⟩)] w fun e w' => e = .returned (.int .i64 n) ∧ w = w' := by
  subst hn
  exact theight_any T t w h.1
/-- the comparison of two rows, the first a fresh one -/
theorem ints_own {w : World} {b1 b2 : Nat} {va vb : Value} (la lb : List Int) (v : Bool) (ha : OwnI w b1 va la) (hb : OwnI w b2 vb lb) (hv : decide (la = lb) = v) :
    Calls Try.prog 16 #[va, vb] w fun e w' => e = .returned (.bool v) ∧ Below w.heap.size w w' := by
  subst hv
  exact ints_any _ _ va vb la lb w (Rd.of_own ha) (Rd.of_own hb) (fun b h => h.2) (fun b h => h.2)
theorem ints_new {w : World} {b1 H : Nat} {va : Value} (la lb : List Int) (v : Bool) (n : Nat) (hH : H < w.heap.size) (ha : OwnI w b1 va la) (hb : Rd w (· = H) 1 (.slice (some ⟨H, 0, none⟩) n n) n (iv lb)) (hn : lb.length = n) (hv : decide (la = lb) = v) :
    Calls Try.prog 16 #[va, .slice (some ⟨H, 0, none⟩) n n] w fun e w' => e = .returned (.bool v) ∧ Below w.heap.size w w' := by
  subst hv
  subst hn
  exact ints_any _ _ va _ la lb w (Rd.of_own ha) hb (fun b h => h.2) (fun b h => h ▸ hH)

set_option maxRecDepth 100000 in
set_option maxHeartbeats 4000000 in
theorem works_any (w : World) : Calls Try.prog 9 #[] w fun e w' => e = .returned (.bool true) ∧ Below w.heap.size w w' := by
  go_enter Try.func9, Try.ntmps9
  go_wp2_with fail
  (with_reducible refine (tnew_m (B := w.heap.size) (w0 := w) (Below.refl _ _) (Nat.le_refl _)).mono ?_)
  rintro e1 w1 ⟨rfl, hm, _⟩
  generalize hTT : w.heap.size = T at *
  have HTT := Lib.hid hTT
  clear hTT
  have C1 := Lib.hid (tadd_m 0 5 1 [] [⟨0, 5, 1⟩] true hm rfl (by decide) (by decide) (by decide))
  go_wp2_with fail
  (with_reducible refine C1.out.mono ?_)
  rintro e2 w2 ⟨rfl, t2, hi2, hm2, _, _⟩
  clear C1 hm
  have C2 := Lib.hid (tadd_m 3 9 2 [⟨0, 5, 1⟩] [⟨0, 5, 1⟩, ⟨3, 9, 2⟩] true hm2 hi2 (by decide) (by decide) (by decide))
  clear hi2 hm2
  go_wp2_with fail
  (with_reducible refine C2.out.mono ?_)
  rintro e3 w3 ⟨rfl, t3, hi3, hm3, _, _⟩
  clear C2
  have C3 := Lib.hid (tadd_m 5 6 3 [⟨0, 5, 1⟩, ⟨3, 9, 2⟩] [⟨0, 5, 1⟩, ⟨3, 9, 2⟩, ⟨5, 6, 3⟩] true hm3 hi3 (by decide) (by decide) (by decide))
  clear hi3 hm3
  go_wp2_with fail
  (with_reducible refine C3.out.mono ?_)
  rintro e4 w4 ⟨rfl, t4, hi4, hm4, _, _⟩
  clear C3
  have C4 := Lib.hid (tadd_m 3 9 2 [⟨0, 5, 1⟩, ⟨3, 9, 2⟩, ⟨5, 6, 3⟩] [⟨0, 5, 1⟩, ⟨3, 9, 2⟩, ⟨5, 6, 3⟩] false hm4 hi4 (by decide) (by decide) (by decide))
  clear hi4 hm4
  go_wp2_with fail
  (with_reducible refine C4.out.mono ?_)
  rintro e5 w5 ⟨rfl, t5, hi5, hm5, _, _⟩
  clear C4
  have C5 := Lib.hid (tadd_m 4 4 4 [⟨0, 5, 1⟩, ⟨3, 9, 2⟩, ⟨5, 6, 3⟩] [⟨0, 5, 1⟩, ⟨3, 9, 2⟩, ⟨5, 6, 3⟩] false hm5 hi5 (by decide) (by decide) (by decide))
  clear hi5 hm5
  go_wp2_with fail
  (with_reducible refine C5.out.mono ?_)
  rintro e6 w6 ⟨rfl, t6, hi6, hm6, _, _⟩
  clear C5
  have hln6 : (t6.items.length : Int) = 3 := by rw [hi6]; rfl
  have hht6 : t6.ht = 2 := hm6.ok.three (by rw [hi6]; rfl)
  have C6 := Lib.hid (tstab_m 5 _ [2, 3] hm6 hi6 (by decide) (by decide))
  have HM6 := Lib.hid hm6
  have HI6 := Lib.hid hi6
  have HL6 := Lib.hid hln6
  have HH6 := Lib.hid hht6
  clear hm6 hi6 hln6 hht6
  go_wp2_with fail
  (with_reducible refine C6.out.mono ?_)
  rintro e7 w7 ⟨A7, k7, rfl, H7, h71, h72, hO7, hb7⟩
  clear C6
  go_wp2_with fail
  have D7 := Lib.hid (ints_new (va := .slice A7 2 k7) (w := w7.alloc (.cells #[.int .i64 2, .int .i64 3] 3)) (H := w7.heap.size) [2, 3] [2, 3] true 2 (by simp) (World.ownsRow.alloc hO7 _) (Rd.new' w7 w7.heap.size rfl [.int .i64 2, .int .i64 3] 3 1 2 rfl (by unfold maxLen; omega)) rfl (by decide))
  (with_reducible refine D7.out.mono ?_)
  rintro e8 w8 ⟨rfl, hb8⟩
  clear D7 hO7
  have hb68 : Below w6.heap.size w6 w8 := hb7.trans (((Below.of_alloc _).trans (hb8.mono (by simp))).mono hb7.size)
  have hm8 := HM6.out.below hb68
  have hi8 := HI6.out
  clear hb7 hb8 hb68
  have C8 := Lib.hid (tovl_m 0 4 _ [1, 2] hm8 hi8 (by decide) (by decide))
  have HM8 := Lib.hid hm8
  clear hm8 hi8 h71 h72 H7
  go_wp2_with fail
  (with_reducible refine C8.out.mono ?_)
  rintro e9 w9 ⟨A9, k9, rfl, H9, h91, h92, hO9, hb9⟩
  clear C8
  go_wp2_with fail
  have D9 := Lib.hid (ints_new (va := .slice A9 2 k9) (w := w9.alloc (.cells #[.int .i64 1, .int .i64 2] 3)) (H := w9.heap.size) [1, 2] [1, 2] true 2 (by simp) (World.ownsRow.alloc hO9 _) (Rd.new' w9 w9.heap.size rfl [.int .i64 1, .int .i64 2] 3 1 2 rfl (by unfold maxLen; omega)) rfl (by decide))
  (with_reducible refine D9.out.mono ?_)
  rintro e10 w10 ⟨rfl, hb10⟩
  clear D9 hO9
  have hb810 : Below w8.heap.size w8 w10 := hb9.trans (((Below.of_alloc _).trans (hb10.mono (by simp))).mono hb9.size)
  have hm10 := HM8.out.below hb810
  clear hb9 hb10 hb810 h91 h92 H9
  have C10 := Lib.hid (tlen_m hm10 3 HL6.out)
  have C11 := Lib.hid (theight_m hm10 2 HH6.out)
  have HM10 := Lib.hid hm10
  clear hm10
  go_wp2_with fail
  (with_reducible refine C10.out.mono ?_)
  rintro e11 w11 ⟨rfl, rfl⟩
  clear C10
  go_wp2_with fail
  (with_reducible refine C11.out.mono ?_)
  rintro e12 w12 ⟨rfl, rfl⟩
  clear C11
  go_wp2_with fail
  go_ret
  have hf := HM10.out.2.2.1
  rw [← HTT.out] at hf
  exact ⟨rfl, hf⟩
end Go.Proofs.Ytkocehfapcmiiaa
