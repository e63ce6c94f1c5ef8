/-
  The law about the height of the tree.
-/
import Derived.Test.YtkocehfapcmiiaaTreeO
namespace Go.Proofs.Ytkocehfapcmiiaa
open Go.RowKit Go.Lib Go.IntWalk

theorem len_addF (x : It) (l : List It) : (addF x l).length ≤ l.length + 1 := by
  unfold addF
  split
  · rename_i h
    rw [len_insF h.2]
    exact Nat.le_refl _
  · omega
theorem len_remF' (x : It) (l : List It) : (remF x l).length ≤ l.length := by unfold remF; exact List.length_filter_le _ _
theorem oqC_len (o : Oq) : (oqC o).length = 4 := rfl
theorem RdO.elem {w : World} {F : Nat → Prop} {A : Option Addr} {c : Nat} {l : List Oq} (h : Rd w F 4 (.slice A l.length c) l.length (ocv l)) {k : Nat} {x : Oq} (hk : l[k]? = some x) :
    ∃ b off, A = some ⟨b, off, none⟩ ∧ F b ∧ w.cell? ⟨b, off + k * 4, none⟩ = some (.int .i64 x.kind) ∧ w.cell? ⟨b, off + k * 4 + 1, none⟩ = some (.int .i64 x.it.fr) ∧ w.cell? ⟨b, off + k * 4 + 2, none⟩ = some (.int .i64 x.it.to) ∧ w.cell? ⟨b, off + k * 4 + 3, none⟩ = some (.int .i64 x.it.id) := by
  obtain ⟨hlt, _⟩ := List.getElem?_eq_some_iff.1 hk
  obtain ⟨b, off, rfl, hF, hc⟩ := Rd.plain h (by omega) (by omega)
  have g : ∀ j, j < 4 → (ocv l)[k * 4 + j]? = (oqC x)[j]? := fun j hj => flat_getC 4 l oqC (fun x _ => rfl) k j hj x hk
  refine ⟨b, off, rfl, hF, ?_, ?_, ?_, ?_⟩
  · exact hc _ _ (g 0 (by omega))
  · have := hc _ _ (g 1 (by omega)); rwa [← Nat.add_assoc] at this
  · have := hc _ _ (g 2 (by omega)); rwa [← Nat.add_assoc] at this
  · have := hc _ _ (g 3 (by omega)); rwa [← Nat.add_assoc] at this
theorem OpM.any {B : Nat} {w0 w1 w : World} {T : Nat} {t : Tr} {l : List It} {v : Bool} {e : Ending} {n : Nat} (h : OpM B w0 T t l v w1 e w) (hl : l.length ≤ n) : e = .returned (.bool v) ∧ ∃ t' : Tr, Mine B w0 w T t' ∧ t'.items.length ≤ n := by
  obtain ⟨he, t', h1, h2, _⟩ := h
  exact ⟨he, t', h2, by rw [h1]; exact hl⟩
theorem pow_facts {t : Tr} (h : t.Ok) (N : Nat) (hN : t.items.length = N) (hN3 : N ≤ 300) : 0 ≤ t.ht ∧ t.ht ≤ 20 ∧ (N : Int) + 1 ≤ 2 ^ t.ht.toNat ∧ (2 : Int) ^ t.ht.toNat ≤ ((N : Int) + 1) * ((N : Int) + 1) ∧ ((N : Int) + 1) * ((N : Int) + 1) ≤ 90601 ∧ (N = 0 → t.ht = 0) ∧ (N ≠ 0 → t.ht ≠ 0) := by
  have h0 := h.nonneg
  obtain ⟨p1, p2⟩ := h.pow
  rw [hN] at p1 p2
  have hsq : (N + 1) * (N + 1) ≤ 301 * 301 := Nat.mul_le_mul (by omega) (by omega)
  have c1 : ((2 ^ t.ht.toNat : Nat) : Int) = (2 : Int) ^ t.ht.toNat := by simp
  have c2 : (((N + 1) * (N + 1) : Nat) : Int) = ((N : Int) + 1) * ((N : Int) + 1) := by simp
  rw [← c1, ← c2]
  refine ⟨h0, ?_, by omega, by omega, by omega, ?_, ?_⟩
  · rcases Nat.lt_or_ge 20 t.ht.toNat with hh | hh
    · have : 2 ^ 17 ≤ 2 ^ t.ht.toNat := Nat.pow_le_pow_right (by omega) (by omega)
      have : (2 : Nat) ^ 17 = 131072 := rfl
      omega
    · omega
  · intro e
    subst e
    have : t = .nil := by
      cases t with
      | nil => rfl
      | node b x l r h e => rw [Tr.items_node, List.length_append, List.length_cons] at hN; omega
    rw [this]; rfl
  · intro hn e
    rw [e] at p1
    have : (2 : Nat) ^ (0 : Int).toNat = 1 := rfl
    omega

set_option maxRecDepth 100000 in
set_option maxHeartbeats 8000000 in
theorem lawHeight_any (v : Value) (l : List Oq) (w : World) (hl : Rd w (· < w.heap.size) 4 v l.length (ocv l)) : Calls Try.prog 5 #[v] w fun e w' => e = .returned (.bool true) ∧ Below w.heap.size w w' := by
  obtain ⟨A, c, rfl, c1, c2, c3⟩ := hl.open_
  have HC3 := Lib.hid c3
  unfold maxLen at c2
  clear c3
  generalize hB : w.heap.size = B at *
  have HB := Lib.hid hB
  have C0 := Lib.hid (tnew_m (B := B) (w0 := w) (w := w) (Below.refl _ _) (by omega))
  rw [hB] at C0
  clear hB
  by_cases hbig : 300 < l.length
  · go_enter Try.func5, Try.ntmps5
    go_wp2_with fail
    (with_reducible refine C0.out.mono ?_)
    rintro e1 w1 ⟨rfl, hm, _⟩
    clear C0
    go_wp2_with fail
    (with_reducible refine (works_any w1).mono ?_)
    rintro e2 w2 ⟨rfl, hb2⟩
    go_wp2_with fail
    go_ret
    exact ⟨rfl, (hm.below hb2).2.2.1⟩
  go_enter Try.func5, Try.ntmps5
  go_wp2_with fail
  (with_reducible refine C0.out.mono ?_)
  rintro e1 w1 ⟨rfl, hm, _⟩
  clear C0
  go_wp2_with fail
  go_loopw [23] (fun i wr => ∃ (k : Nat) (t : Tr), k ≤ l.length ∧ i = .int .i64 (k : Int) ∧ Mine B w wr B t ∧ t.items.length ≤ k) (fun i _ => l.length - (intOf i).toNat)
  case atStart => exact ⟨0, .nil, Nat.zero_le _, rfl, hm, Nat.le_refl _⟩
  case round =>
    obtain ⟨k, t, hk, rfl, hmr, htk⟩ := hrel
    by_cases hlt : k < l.length
    case neg =>
      go_wp2_with fail
      (with_reducible refine (works_any wr).mono ?_)
      rintro e2 w2 ⟨rfl, hb2⟩
      go_wp2_with fail
      go_ret
      exact ⟨rfl, (hmr.below hb2).2.2.1⟩
    case pos =>
    have hga : l[k]? = some l[k] := List.getElem?_eq_getElem hlt
    have hlr : Rd wr (· < B) 4 (.slice A l.length c) l.length (ocv l) := hl.keep (fun b hb => hmr.2.2.1.block b hb)
    obtain ⟨ba, oa, rfl, _, a0, a1, a2, a3⟩ := RdO.elem hlr hga
    clear hga hlr
    generalize l[k] = x at *
    obtain ⟨kd, p, q, id⟩ := x
    dsimp only at a0 a1 a2 a3
    obtain ⟨V, hV⟩ : ∃ V, V = wr.alloc (.cells #[.int .i64 kd, .int .i64 p, .int .i64 q, .int .i64 id] 46) := ⟨_, rfl⟩
    have hbV : Below wr.heap.size wr V := by rw [hV]; exact Below.of_alloc _
    have hPV : V.heap[wr.heap.size]? = some (.cells #[.int .i64 kd, .int .i64 p, .int .i64 q, .int .i64 id] 46 (0, 0)) := by rw [hV]; exact heap_alloc_new wr _
    have d0 : V.cell? ⟨wr.heap.size, 0, none⟩ = some (.int .i64 kd) := cell_of_row _ _ 0 _ _ _ hPV
    have d1 : V.cell? ⟨wr.heap.size, 1, none⟩ = some (.int .i64 p) := cell_of_row _ _ 1 _ _ _ hPV
    have d2 : V.cell? ⟨wr.heap.size, 2, none⟩ = some (.int .i64 q) := cell_of_row _ _ 2 _ _ _ hPV
    have d3 : V.cell? ⟨wr.heap.size, 3, none⟩ = some (.int .i64 id) := cell_of_row _ _ 3 _ _ _ hPV
    rw [hV] at d0 d1 d2 d3
    have hmV := hmr.below hbV
    have CA := Lib.hid ((tadd_m p q id t.items _ _ hmV rfl (by omega) rfl rfl).mono fun e w' h' => h'.any (n := k + 1) (Nat.le_trans (len_addF _ _) (by omega)))
    have CR := Lib.hid ((trem_m p q id t.items _ _ hmV rfl (by omega) rfl rfl).mono fun e w' h' => h'.any (n := k + 1) (Nat.le_trans (len_remF' _ _) (by omega)))
    have HV := Lib.hid hV
    clear hV hPV hmV hmr hbV
    by_cases hkd : kd = 0
    · subst hkd
      go_wp2_with fail
      rw [← HV.out]
      (with_reducible refine CA.out.mono ?_)
      rintro e2 w2 ⟨rfl, t2, hm2, hn2⟩
      clear CA CR d0 d1 d2 d3
      obtain ⟨N, hN⟩ : ∃ N, t2.items.length = N := ⟨_, rfl⟩
      rw [hN] at hn2
      have CL := Lib.hid (tlen_m hm2 (N : Int) (by rw [hN]))
      have CH := Lib.hid (theight_m hm2 t2.ht rfl)
      obtain ⟨f1, f2, f3, f4, f5, f6, f7⟩ := pow_facts hm2.ok N hN (by omega)
      have HM2 := Lib.hid hm2
      clear hm2
      go_wp2_with fail
      (with_reducible refine CL.out.mono ?_)
      rintro e3 w3 ⟨rfl, rfl⟩
      clear CL
      go_wp2_with fail
      (with_reducible refine CH.out.mono ?_)
      rintro e4 w4 ⟨rfl, rfl⟩
      clear CH
      have HN := Lib.hid hN
      clear hN
      generalize hH : t2.ht = H at *
      clear hH
      have f0 : (0 : Int) < 2 ^ H.toNat := Int.pow_pos (by omega)
      by_cases hN0 : N = 0
      · have f8 := f6 hN0
        subst hN0
        subst f8
        clear f6 f7 f3 f4 f5 f0
        go_wp2_with fail
        go_roundw
        case rel => exact ⟨k + 1, t2, by omega, by go_num, HM2.out, by have := HN.out; omega⟩
        case measure => simp [intOf]; omega
      · have f8 := f7 hN0
        have b1 : ((N : Int) + 1 == 1) = false := by rw [beq_eq_false_iff_ne]; omega
        have b2 : (H == 0) = false := by rw [beq_eq_false_iff_ne]; omega
        clear f6 f7
        generalize hP : (2 : Int) ^ H.toNat = P at *
        generalize hQ : ((N : Int) + 1) * ((N : Int) + 1) = Q at *
        go_wp2_with fail
        go_roundw
        case rel => exact ⟨k + 1, t2, by omega, by go_num, HM2.out, by have := HN.out; omega⟩
        case measure => simp [intOf]; omega
    · have hkb : (kd == 0) = false := by rw [beq_eq_false_iff_ne]; exact hkd
      go_wp2_with fail
      rw [← HV.out]
      (with_reducible refine CR.out.mono ?_)
      rintro e2 w2 ⟨rfl, t2, hm2, hn2⟩
      clear CA CR d0 d1 d2 d3
      obtain ⟨N, hN⟩ : ∃ N, t2.items.length = N := ⟨_, rfl⟩
      rw [hN] at hn2
      have CL := Lib.hid (tlen_m hm2 (N : Int) (by rw [hN]))
      have CH := Lib.hid (theight_m hm2 t2.ht rfl)
      obtain ⟨f1, f2, f3, f4, f5, f6, f7⟩ := pow_facts hm2.ok N hN (by omega)
      have HM2 := Lib.hid hm2
      clear hm2
      go_wp2_with fail
      (with_reducible refine CL.out.mono ?_)
      rintro e3 w3 ⟨rfl, rfl⟩
      clear CL
      go_wp2_with fail
      (with_reducible refine CH.out.mono ?_)
      rintro e4 w4 ⟨rfl, rfl⟩
      clear CH
      have HN := Lib.hid hN
      clear hN
      generalize hH : t2.ht = H at *
      clear hH
      have f0 : (0 : Int) < 2 ^ H.toNat := Int.pow_pos (by omega)
      by_cases hN0 : N = 0
      · have f8 := f6 hN0
        subst hN0
        subst f8
        clear f6 f7 f3 f4 f5 f0
        go_wp2_with fail
        go_roundw
        case rel => exact ⟨k + 1, t2, by omega, by go_num, HM2.out, by have := HN.out; omega⟩
        case measure => simp [intOf]; omega
      · have f8 := f7 hN0
        have b1 : ((N : Int) + 1 == 1) = false := by rw [beq_eq_false_iff_ne]; omega
        have b2 : (H == 0) = false := by rw [beq_eq_false_iff_ne]; omega
        clear f6 f7
        generalize hP : (2 : Int) ^ H.toNat = P at *
        generalize hQ : ((N : Int) + 1) * ((N : Int) + 1) = Q at *
        go_wp2_with fail
        go_roundw
        case rel => exact ⟨k + 1, t2, by omega, by go_num, HM2.out, by have := HN.out; omega⟩
        case measure => simp [intOf]; omega
end Go.Proofs.Ytkocehfapcmiiaa
