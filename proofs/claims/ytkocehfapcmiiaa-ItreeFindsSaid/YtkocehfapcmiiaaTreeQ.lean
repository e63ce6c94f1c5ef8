/-
  The law about the order of adding.
-/
import Derived.Test.YtkocehfapcmiiaaTreeP
namespace Go.Proofs.Ytkocehfapcmiiaa
open Go.RowKit Go.Lib Go.IntWalk

theorem wrap_in {x : Int} (h : -9223372036854775808 ≤ x ∧ x ≤ 9223372036854775807) : IntKind.i64.wrap x = x := by
  rw [IntKind.wrap_i64]
  omega
theorem srt_unique : ∀ {a b : List It}, srtI a → srtI b → (∀ x, x ∈ a ↔ x ∈ b) → a = b
  | [], [], _, _, _ => rfl
  | [], y :: b, _, _, h => by have := (h y).2 (List.mem_cons_self ..); cases this
  | x :: a, [], _, _, h => by have := (h x).1 (List.mem_cons_self ..); cases this
  | x :: a, y :: b, ha, hb, h => by
    obtain ⟨hx, ha'⟩ := List.pairwise_cons.1 ha
    obtain ⟨hy, hb'⟩ := List.pairwise_cons.1 hb
    have e : x = y := by
      rcases List.mem_cons.1 ((h x).1 (List.mem_cons_self ..)) with e | e
      · exact e
      · rcases List.mem_cons.1 ((h y).2 (List.mem_cons_self ..)) with e' | e'
        · exact e'.symm
        · exact absurd (hx y e') (ltI_asymm (hy x e))
    subst e
    rw [srt_unique ha' hb' fun z => ⟨fun hz => by
        rcases List.mem_cons.1 ((h z).1 (List.mem_cons_of_mem _ hz)) with e | e
        · subst e; exact absurd (hx _ hz) (ltI_irrefl _)
        · exact e, fun hz => by
        rcases List.mem_cons.1 ((h z).2 (List.mem_cons_of_mem _ hz)) with e | e
        · subst e; exact absurd (hy _ hz) (ltI_irrefl _)
        · exact e⟩]
theorem mem_addF {x y : It} {l : List It} : x ∈ addF y l ↔ x ∈ l ∨ (x = y ∧ vldP y.fr y.to = true) := by
  unfold addF
  by_cases h : vldP y.fr y.to = true ∧ y ∉ l
  · rw [if_pos h, mem_insF]
    constructor
    · rintro (e | e)
      · exact .inr ⟨e, h.1⟩
      · exact .inl e
    · rintro (e | ⟨e, _⟩)
      · exact .inr e
      · exact .inl e
  · rw [if_neg h]
    constructor
    · exact .inl
    · rintro (e | ⟨rfl, e⟩)
      · exact e
      · by_cases hm : x ∈ l
        · exact hm
        · exact absurd ⟨e, hm⟩ h
/-- the valid items of which P holds -/
def SetIs (t : Tr) (P : It → Prop) : Prop := ∀ x, x ∈ t.items ↔ vldP x.fr x.to = true ∧ P x
theorem SetIs.nil {P : It → Prop} (h : ∀ x, ¬ P x) : SetIs .nil P := fun x => ⟨fun hx => (by cases hx), fun hx => absurd hx.2 (h x)⟩
theorem SetIs.add {t t' : Tr} {P Q : It → Prop} {y : It} (h : SetIs t P) (ht : t'.items = addF y t.items) (hq : ∀ x, Q x ↔ P x ∨ x = y) : SetIs t' Q := by
  intro x
  rw [ht, mem_addF, h x, hq x]
  constructor
  · rintro (⟨a, b⟩ | ⟨rfl, b⟩)
    · exact ⟨a, .inl b⟩
    · exact ⟨b, .inr rfl⟩
  · rintro ⟨a, b | rfl⟩
    · exact .inl ⟨a, b⟩
    · exact .inr ⟨rfl, a⟩
theorem SetIs.rem {t t' : Tr} {P Q : It → Prop} {y : It} (h : SetIs t P) (ht : t'.items = remF y t.items) (hq : ∀ x, Q x ↔ P x ∧ x ≠ y) : SetIs t' Q := by
  intro x
  rw [ht, mem_remF, h x, hq x, and_assoc]
theorem SetIs.to {t : Tr} {P Q : It → Prop} (h : SetIs t P) (hq : ∀ x, Q x ↔ P x) : SetIs t Q := fun x => by rw [h x, hq x]
/-- two trees, apart -/
def Two (B : Nat) (w0 w : World) (T1 : Nat) (t1 : Tr) (T2 : Nat) (t2 : Tr) : Prop := Mine B w0 w T1 t1 ∧ Mine B w0 w T2 t2 ∧ ∀ i, fp T1 t1 i → ¬ fp T2 t2 i
theorem Two.below {B : Nat} {w0 w w' : World} {T1 T2 : Nat} {t1 t2 : Tr} (h : Two B w0 w T1 t1 T2 t2) (hb : Below w.heap.size w w') : Two B w0 w' T1 t1 T2 t2 := ⟨h.1.below hb, h.2.1.below hb, h.2.2⟩
theorem Two.op1 {B : Nat} {w0 w w' : World} {T1 T2 : Nat} {t1 t2 : Tr} {l : List It} {v : Bool} {e : Ending} (h : Two B w0 w T1 t1 T2 t2) (ho : OpM B w0 T1 t1 l v w e w') : e = .returned (.bool v) ∧ ∃ t', t'.items = l ∧ Two B w0 w' T1 t' T2 t2 := by
  obtain ⟨he, t', h1, h2, h3, h4⟩ := ho
  refine ⟨he, t', h1, h2, h.2.1.chg h.1 h3 (fun i hi hj => h.2.2 i hj hi), fun i hi hj => ?_⟩
  rcases h4 i hi with hh | hh
  · exact h.2.2 i hh hj
  · have := h.2.1.1.lt i hj; omega
theorem Two.op2 {B : Nat} {w0 w w' : World} {T1 T2 : Nat} {t1 t2 : Tr} {l : List It} {v : Bool} {e : Ending} (h : Two B w0 w T1 t1 T2 t2) (ho : OpM B w0 T2 t2 l v w e w') : e = .returned (.bool v) ∧ ∃ t', t'.items = l ∧ Two B w0 w' T1 t1 T2 t' := by
  obtain ⟨he, t', h1, h2, h3, h4⟩ := ho
  refine ⟨he, t', h1, h.1.chg h.2.1 h3 h.2.2, h2, fun i hi hj => ?_⟩
  rcases h4 i hj with hh | hh
  · exact h.2.2 i hi hh
  · have := h.1.1.lt i hi; omega
theorem two_new {B : Nat} {w0 w1 w2 : World} {T1 T2 : Nat} (h1 : Mine B w0 w1 T1 .nil) (h2 : Mine B w0 w2 T2 .nil) (hT : T2 = w1.heap.size) (hb : Below w1.heap.size w1 w2) : Two B w0 w2 T1 .nil T2 .nil := by
  refine ⟨h1.below hb, h2, ?_⟩
  rintro i (rfl | hi) (e | hj)
  · have := h1.1.lt i (.inl rfl); omega
  · cases hj
  · cases hi
  · cases hi
theorem Two.add1 {B : Nat} {w0 w : World} {T1 T2 : Nat} {t1 t2 : Tr} (h : Two B w0 w T1 t1 T2 t2) (p q id : Int) (hl : t1.items.length ≤ 1099511620000) :
    Calls Try.prog 11 #[.pointer (some ⟨T1, 0, none⟩), perV p q, .int .i64 id] w fun e w' => e = .returned (.bool (addB ⟨p, q, id⟩ t1.items)) ∧ ∃ t', t'.items = addF ⟨p, q, id⟩ t1.items ∧ Two B w0 w' T1 t' T2 t2 :=
  (tadd_m p q id t1.items _ _ h.1 rfl hl rfl rfl).mono fun _ _ h' => h.op1 h'
theorem Two.add2 {B : Nat} {w0 w : World} {T1 T2 : Nat} {t1 t2 : Tr} (h : Two B w0 w T1 t1 T2 t2) (p q id : Int) (hl : t2.items.length ≤ 1099511620000) :
    Calls Try.prog 11 #[.pointer (some ⟨T2, 0, none⟩), perV p q, .int .i64 id] w fun e w' => e = .returned (.bool (addB ⟨p, q, id⟩ t2.items)) ∧ ∃ t', t'.items = addF ⟨p, q, id⟩ t2.items ∧ Two B w0 w' T1 t1 T2 t' :=
  (tadd_m p q id t2.items _ _ h.2.1 rfl hl rfl rfl).mono fun _ _ h' => h.op2 h'
theorem Two.rem2 {B : Nat} {w0 w : World} {T1 T2 : Nat} {t1 t2 : Tr} (h : Two B w0 w T1 t1 T2 t2) (p q id : Int) (hl : t2.items.length ≤ 1099511620000) :
    Calls Try.prog 19 #[.pointer (some ⟨T2, 0, none⟩), perV p q, .int .i64 id] w fun e w' => e = .returned (.bool (decide ((⟨p, q, id⟩ : It) ∈ t2.items))) ∧ ∃ t', t'.items = remF ⟨p, q, id⟩ t2.items ∧ Two B w0 w' T1 t1 T2 t' :=
  (trem_m p q id t2.items _ _ h.2.1 rfl hl rfl rfl).mono fun _ _ h' => h.op2 h'
def ItsM (l : List It) (w0 : World) (e : Ending) (w : World) : Prop := ∃ A c, e = .returned (.slice A l.length c) ∧ Hid (A = none → c = 0) ∧ l.length ≤ c ∧ c ≤ maxLen ∧ OwnIt w w0.heap.size (.slice A l.length c) l ∧ Below w0.heap.size w0 w
theorem titems_m {B : Nat} {w0 w : World} {T : Nat} {t : Tr} (l : List It) (h : Mine B w0 w T t) (hi : t.items = l) (hl : l.length ≤ 1099511620000) :
    Calls Try.prog 24 #[.pointer (some ⟨T, 0, none⟩)] w (ItsM l w) := by
  subst hi
  refine (titems_any T t w h.1 (by omega)).mono ?_
  rintro e w' ⟨v, rfl, hO, hb⟩
  obtain ⟨A, c, rfl, c1, c2, c3⟩ := hO.open_
  exact ⟨A, c, rfl, Lib.hid c3, c1, c2, hO, hb⟩
theorem items_own {w : World} {b1 b2 : Nat} {va vb : Value} (la lb : List It) (v : Bool) (ha : OwnIt w b1 va la) (hb : OwnIt w b2 vb lb) (hv : decide (la = lb) = v) :
    Calls Try.prog 23 #[va, vb] w fun e w' => e = .returned (.bool v) ∧ Below w.heap.size w w' := by
  subst hv
  exact items_any _ _ va vb la lb w (Rd.of_own ha) (Rd.of_own hb) (fun b h => h.2) (fun b h => h.2)
theorem take_mem {α : Type} {l : List α} {k : Nat} {y : α} (hk : l[k]? = some y) (x : α) : x ∈ l.take (k + 1) ↔ x ∈ l.take k ∨ x = y := by
  obtain ⟨h, e⟩ := List.getElem?_eq_some_iff.1 hk
  rw [List.take_succ_eq_append_getElem h, List.mem_append, List.mem_singleton, e]
theorem drop_mem {α : Type} {l : List α} {k : Nat} {y : α} (hk : l[k]? = some y) (x : α) : x ∈ l.drop k ↔ x = y ∨ x ∈ l.drop (k + 1) := by
  obtain ⟨h, e⟩ := List.getElem?_eq_some_iff.1 hk
  rw [List.drop_eq_getElem_cons h, List.mem_cons, e]

set_option maxRecDepth 100000 in
set_option maxHeartbeats 16000000 in
theorem lawOrder_any (va : Value) (la : List It) (vb : Value) (lb : List It) (n p q : Int) (w : World) (hla : Rd w (· < w.heap.size) 3 va la.length (icv la)) (hlb : Rd w (· < w.heap.size) 3 vb lb.length (icv lb)) :
    Calls Try.prog 7 #[va, vb, .int .i64 n, perV p q] w fun e w' => e = .returned (.bool true) ∧ Below w.heap.size w w' := by
  obtain ⟨A, c, rfl, c1, c2, c3⟩ := hla.open_
  have HC3 := Lib.hid c3
  unfold maxLen at c2
  clear c3
  obtain ⟨A', c', rfl, c1', c2', c3'⟩ := hlb.open_
  have HC3' := Lib.hid c3'
  unfold maxLen at c2'
  clear c3'
  obtain ⟨W, hW⟩ : ∃ W, W = w.alloc (.cells #[.int .i64 p, .int .i64 q] 28) := ⟨_, rfl⟩
  have hbW : Below w.heap.size w W := by rw [hW]; exact Below.of_alloc _
  have hPW : W.heap[w.heap.size]? = some (.cells #[.int .i64 p, .int .i64 q] 28 (0, 0)) := by rw [hW]; exact heap_alloc_new w _
  have hla' := hla.below hbW
  have hlb' := hlb.below hbW
  have hwW := hbW.size
  have HBW := Lib.hid hbW
  have HPW := Lib.hid hPW
  have HW := Lib.hid hW
  have hBox := (Array.getElem?_eq_some_iff.1 hPW).1
  clear hbW hPW hW hla hlb
  have CW := Lib.hid (works_any W)
  have C0 := Lib.hid (tnew_m (B := W.heap.size) (w0 := W) (w := W) (Below.refl _ _) (Nat.le_refl _))
  by_cases hbig : 100 < la.length
  · go_enter Try.func7, Try.ntmps7
    go_wp2_with fail
    rw [← HW.out]
    (with_reducible refine CW.out.mono ?_)
    rintro e2 w2 ⟨rfl, hb2⟩
    go_wp2_with fail
    go_ret
    exact ⟨rfl, HBW.out.trans (hb2.mono hwW)⟩
  by_cases hbig' : 100 < lb.length
  · go_enter Try.func7, Try.ntmps7
    go_wp2_with fail
    rw [← HW.out]
    (with_reducible refine CW.out.mono ?_)
    rintro e2 w2 ⟨rfl, hb2⟩
    go_wp2_with fail
    go_ret
    exact ⟨rfl, HBW.out.trans (hb2.mono hwW)⟩
  clear CW
  go_enter Try.func7, Try.ntmps7
  go_wp2_with fail
  rw [← HW.out]
  clear HW
  generalize hX : w.heap.size = X at *
  have HX := Lib.hid hX
  clear hX
  (with_reducible refine C0.out.mono ?_)
  rintro e1 w1 ⟨rfl, hm1, _⟩
  clear C0
  have C1 := Lib.hid (tnew_m (B := W.heap.size) (w0 := W) (w := w1) hm1.2.2.1 hm1.2.2.2)
  go_wp2_with fail
  (with_reducible refine C1.out.mono ?_)
  rintro e2 w2 ⟨rfl, hm2, hb12⟩
  clear C1
  have hTwo := two_new hm1 hm2 rfl hb12
  clear hm1 hm2 hb12
  generalize w1.heap.size = T2 at *
  obtain ⟨T1, hT1⟩ : ∃ T1, T1 = W.heap.size := ⟨_, rfl⟩
  rw [← hT1]
  rw [← hT1] at hTwo
  generalize hB : W.heap.size = B at *
  have hBe : Two T1 W w2 T1 .nil T2 .nil = Two B W w2 T1 .nil T2 .nil := by rw [hT1]
  rw [hBe] at hTwo
  clear hBe hT1
  have HB := Lib.hid hB
  clear hB
  go_wp2_with fail
  go_loopw [34] (fun i wr => ∃ (k : Nat) (t : Tr), k ≤ la.length ∧ i = .int .i64 (k : Int) ∧ Two B W wr T1 t T2 .nil ∧ t.items.length ≤ k ∧ SetIs t (· ∈ la.take k)) (fun i _ => la.length - (intOf i).toNat)
  case atStart => exact ⟨0, .nil, Nat.zero_le _, rfl, hTwo, Nat.le_refl _, SetIs.nil (by simp)⟩
  case round =>
    obtain ⟨k, t1, hk, rfl, hTwr, htk, hS1⟩ := hrel
    have HS1 := Lib.hid hS1
    clear hS1 hTwo
    by_cases hlt : k < la.length
    case pos =>
      have hlr : Rd wr (· < X) 3 (.slice A la.length c) la.length (icv la) := hla'.keep (fun b hb => hTwr.1.2.2.1.block b (by omega))
      have hga : la[k]? = some la[k] := List.getElem?_eq_getElem hlt
      obtain ⟨ba, oa, rfl, _, a0, a1, a2⟩ := RdIt.elem hlr hga
      have HGA := Lib.hid hga
      clear hga
      generalize la[k] = x at *
      obtain ⟨xp, xq, xn⟩ := x
      dsimp only at a0 a1 a2
      obtain ⟨V, hV⟩ : ∃ V, V = wr.alloc (.cells #[.int .i64 xp, .int .i64 xq, .int .i64 xn] 30) := ⟨_, rfl⟩
      have hbV : Below wr.heap.size wr V := by rw [hV]; exact Below.of_alloc _
      have hPV : V.heap[wr.heap.size]? = some (.cells #[.int .i64 xp, .int .i64 xq, .int .i64 xn] 30 (0, 0)) := by rw [hV]; exact heap_alloc_new wr _
      have d0 : V.cell? ⟨wr.heap.size, 0, none⟩ = some (.int .i64 xp) := cell_of_row _ _ 0 _ _ _ hPV
      have d1 : V.cell? ⟨wr.heap.size, 1, none⟩ = some (.int .i64 xq) := cell_of_row _ _ 1 _ _ _ hPV
      have d2 : V.cell? ⟨wr.heap.size, 2, none⟩ = some (.int .i64 xn) := cell_of_row _ _ 2 _ _ _ hPV
      rw [hV] at d0 d1 d2
      have HV := Lib.hid hV
      have CA := Lib.hid ((hTwr.below hbV).add1 xp xq xn (by omega))
      clear hV hPV hbV hTwr hlr
      go_wp2_with fail
      rw [← HV.out]
      (with_reducible refine CA.out.mono ?_)
      rintro e3 w3 ⟨rfl, t3, hi3, hT3⟩
      clear CA d0 d1 d2
      go_wp2_with fail
      go_roundw
      case rel => exact ⟨k + 1, t3, by omega, by go_num, hT3, by rw [hi3]; exact Nat.le_trans (len_addF _ _) (by omega), HS1.out.add hi3 (take_mem HGA.out)⟩
      case measure => simp [intOf]; omega
    case neg =>
    obtain rfl : k = la.length := by omega
    clear hlt hk
    go_wp2_with fail
    go_loopw [47] (fun i wr => ∃ (k : Nat) (t : Tr), k ≤ lb.length ∧ i = .int .i64 (k : Int) ∧ Two B W wr T1 t1 T2 t ∧ t.items.length ≤ k ∧ SetIs t (· ∈ lb.take k)) (fun i _ => lb.length - (intOf i).toNat)
    case atStart => exact ⟨0, .nil, Nat.zero_le _, rfl, hTwr, Nat.le_refl _, SetIs.nil (by simp)⟩
    case round =>
      obtain ⟨k, t2, hk, rfl, hTw2, htk2, hS2⟩ := hrel
      have HS2 := Lib.hid hS2
      clear hS2 hTwr
      by_cases hlt : k < lb.length
      case pos =>
        have hlr : Rd wr (· < X) 3 (.slice A' lb.length c') lb.length (icv lb) := hlb'.keep (fun b hb => hTw2.1.2.2.1.block b (by omega))
        have hga : lb[k]? = some lb[k] := List.getElem?_eq_getElem hlt
        obtain ⟨ba, oa, rfl, _, a0, a1, a2⟩ := RdIt.elem hlr hga
        have HGA := Lib.hid hga
        clear hga
        generalize lb[k] = x at *
        obtain ⟨xp, xq, xn⟩ := x
        dsimp only at a0 a1 a2
        obtain ⟨V, hV⟩ : ∃ V, V = wr.alloc (.cells #[.int .i64 xp, .int .i64 xq, .int .i64 xn] 30) := ⟨_, rfl⟩
        have hbV : Below wr.heap.size wr V := by rw [hV]; exact Below.of_alloc _
        have hPV : V.heap[wr.heap.size]? = some (.cells #[.int .i64 xp, .int .i64 xq, .int .i64 xn] 30 (0, 0)) := by rw [hV]; exact heap_alloc_new wr _
        have d0 : V.cell? ⟨wr.heap.size, 0, none⟩ = some (.int .i64 xp) := cell_of_row _ _ 0 _ _ _ hPV
        have d1 : V.cell? ⟨wr.heap.size, 1, none⟩ = some (.int .i64 xq) := cell_of_row _ _ 1 _ _ _ hPV
        have d2 : V.cell? ⟨wr.heap.size, 2, none⟩ = some (.int .i64 xn) := cell_of_row _ _ 2 _ _ _ hPV
        rw [hV] at d0 d1 d2
        have HV := Lib.hid hV
        have CA := Lib.hid ((hTw2.below hbV).add2 xp xq xn (by omega))
        clear hV hPV hbV hTw2 hlr
        go_wp2_with fail
        rw [← HV.out]
        (with_reducible refine CA.out.mono ?_)
        rintro e3 w3 ⟨rfl, t3, hi3, hT3⟩
        clear CA d0 d1 d2
        go_wp2_with fail
        go_roundw
        case rel => exact ⟨k + 1, t3, by omega, by go_num, hT3, by rw [hi3]; exact Nat.le_trans (len_addF _ _) (by omega), HS2.out.add hi3 (take_mem HGA.out)⟩
        case measure => simp [intOf]; omega
      case neg =>
      obtain rfl : k = lb.length := by omega
      clear hlt hk
      go_wp2_with fail
      go_loopw [60] (fun i wr => ∃ (k : Nat) (t : Tr), k ≤ la.length ∧ i = .int .i64 (k : Int) ∧ Two B W wr T1 t1 T2 t ∧ t.items.length ≤ lb.length + k ∧ SetIs t (fun x => x ∈ lb ∨ x ∈ la.drop (la.length - k))) (fun i _ => la.length - (intOf i).toNat)
      case atStart => exact ⟨0, t2, Nat.zero_le _, rfl, hTw2, by omega, HS2.out.to (fun x => by simp)⟩
      case round =>
        obtain ⟨k, t3', hk, rfl, hTw3, htk3, hS3⟩ := hrel
        have HS3 := Lib.hid hS3
        clear hS3 hTw2
        by_cases hlt3 : k < la.length
        case pos =>
          have hlr : Rd wr (· < X) 3 (.slice A la.length c) la.length (icv la) := hla'.keep (fun b hb => hTw3.1.2.2.1.block b (by omega))
          obtain ⟨j, hj⟩ : ∃ j, j = la.length - 1 - k := ⟨_, rfl⟩
          have hji : IntKind.i64.wrap (IntKind.i64.wrap ((la.length : Int) - 1) - (k : Int)) = (j : Int) := by rw [wrap_in (x := (la.length : Int) - 1) (by omega), wrap_in (by omega)]; omega
          have hlt : j < la.length := by omega
          have HJ := Lib.hid hj
          clear hj
          have hga : la[j]? = some la[j] := List.getElem?_eq_getElem hlt
          obtain ⟨ba, oa, rfl, hba, a0, a1, a2⟩ := RdIt.elem hlr hga
          have HGA := Lib.hid hga
          clear hga
          generalize la[j] = x at *
          obtain ⟨xp, xq, xn⟩ := x
          dsimp only at a0 a1 a2
          have HKB := Lib.hid (hTw3.1.2.2.1.block ba (by omega)).symm
          have CA := Lib.hid ((hTw3.below (Below.refl _ _).drew).add2 xp xq xn (by omega))
          clear hTw3 hlr
          go_wp2_with fail
          refine wp_region_noPanic ?_
          refine wp_region_held_drew (S := (fun w' => w'.heap[ba]? = wr.heap[ba]?)) (by kernel_rfl) ?_ (fun hHeld => ?_)
          · rfl
          refine heldTake 0 (some 63) (v := ?_) rfl rfl (by kernel_rfl) (by kernel_rfl) (by kernel_rfl) (by rfl) hHeld (fun _ _ _ h => h) ?_ ?_
          rotate_left
          · intro w' hSw; (try dsimp only at hSw); go_simp <;> with_reducible rfl
          simp only [Act.put, List.setIfInBounds_toArray, List.set_cons_zero, List.set_cons_succ]
          refine heldTake 1 (some 64) (v := ?_) rfl rfl (by kernel_rfl) (by kernel_rfl) (by kernel_rfl) (by rfl) hHeld (fun _ _ _ h => h) ?_ ?_
          rotate_left
          · intro w' hSw; (try dsimp only at hSw); go_simp <;> with_reducible rfl
          simp only [Act.put, List.setIfInBounds_toArray, List.set_cons_zero, List.set_cons_succ]
          refine heldTake 2 (some 65) (v := ?_) rfl rfl (by kernel_rfl) (by kernel_rfl) (by kernel_rfl) (by rfl) hHeld (fun _ _ _ h => h) ?_ ?_
          rotate_left
          · intro w' hSw; (try dsimp only at hSw); go_simp <;> with_reducible rfl
          simp only [Act.put, List.setIfInBounds_toArray, List.set_cons_zero, List.set_cons_succ]
          refine heldTake 3 (some 66) (v := ?_) rfl rfl (by kernel_rfl) (by kernel_rfl) (by kernel_rfl) (by rfl) hHeld (fun _ _ _ h => h) ?_ ?_
          rotate_left
          · intro w' hSw; (try dsimp only at hSw); go_simp <;> with_reducible rfl
          simp only [Act.put, List.setIfInBounds_toArray, List.set_cons_zero, List.set_cons_succ]
          refine heldTake 4 (some 67) (v := ?_) rfl rfl (by kernel_rfl) (by kernel_rfl) (by kernel_rfl) (by rfl) hHeld (fun _ _ _ h => h) ?_ ?_
          rotate_left
          · intro w' hSw; (try dsimp only at hSw); go_simp <;> with_reducible rfl
          simp only [Act.put, List.setIfInBounds_toArray, List.set_cons_zero, List.set_cons_succ]
          refine heldTake 5 (some 68) (v := ?_) rfl rfl (by kernel_rfl) (by kernel_rfl) (by kernel_rfl) (by rfl) hHeld (fun _ _ _ h => h) ?_ ?_
          rotate_left
          · intro w' hSw; (try dsimp only at hSw); go_simp <;> with_reducible rfl
          simp only [Act.put, List.setIfInBounds_toArray, List.set_cons_zero, List.set_cons_succ]
          refine heldTake 6 (some 69) (v := ?_) rfl rfl (by kernel_rfl) (by kernel_rfl) (by kernel_rfl) (by rfl) hHeld (fun _ _ _ h => h) ?_ ?_
          rotate_left
          · intro w' hSw; (try dsimp only at hSw); go_simp <;> with_reducible rfl
          simp only [Act.put, List.setIfInBounds_toArray, List.set_cons_zero, List.set_cons_succ]
          refine heldTake 7 (some 70) (v := ?_) rfl rfl (by kernel_rfl) (by kernel_rfl) (by kernel_rfl) (by rfl) hHeld (fun _ _ _ h => h) ?_ ?_
          rotate_left
          · intro w' hSw; (try dsimp only at hSw); go_simp <;> with_reducible rfl
          simp only [Act.put, List.setIfInBounds_toArray, List.set_cons_zero, List.set_cons_succ]
          refine heldTake 8 (some 71) (v := ?_) rfl rfl (by kernel_rfl) (by kernel_rfl) (by kernel_rfl) (by rfl) hHeld (fun _ _ _ h => h) ?_ ?_
          rotate_left
          · intro w' hSw; (try dsimp only at hSw); go_simp <;> with_reducible rfl
          simp only [Act.put, List.setIfInBounds_toArray, List.set_cons_zero, List.set_cons_succ]
          refine heldTake 9 (some 72) (v := ?_) rfl rfl (by kernel_rfl) (by kernel_rfl) (by kernel_rfl) (by rfl) hHeld (fun _ _ _ h => h) ?_ ?_
          rotate_left
          · intro w' hSw; (try dsimp only at hSw); have q0 := (World.cell?_of_block (w := wr) (a := ⟨ba, oa + j * 3, none⟩) hSw).trans a0; have q1 := (World.cell?_of_block (w := wr) (a := ⟨ba, oa + j * 3 + 1, none⟩) hSw).trans a1; have q2 := (World.cell?_of_block (w := wr) (a := ⟨ba, oa + j * 3 + 2, none⟩) hSw).trans a2; go_simp <;> with_reducible rfl
          simp only [Act.put, List.setIfInBounds_toArray, List.set_cons_zero, List.set_cons_succ]
          refine heldTake 10 (some 73) (v := ?_) rfl rfl (by kernel_rfl) (by kernel_rfl) (by kernel_rfl) (by rfl) hHeld (fun _ _ _ h => h) ?_ ?_
          rotate_left
          · intro w' hSw; (try dsimp only at hSw); go_simp <;> with_reducible rfl
          simp only [Act.put, List.setIfInBounds_toArray, List.set_cons_zero, List.set_cons_succ]
          refine heldTake 11 (some 74) (v := ?_) rfl rfl (by kernel_rfl) (by kernel_rfl) (by kernel_rfl) (by rfl) hHeld (fun _ _ _ h => h) ?_ ?_
          rotate_left
          · intro w' hSw; (try dsimp only at hSw); go_simp <;> with_reducible rfl
          simp only [Act.put, List.setIfInBounds_toArray, List.set_cons_zero, List.set_cons_succ]
          refine heldTake 12 (some 75) (v := ?_) rfl rfl (by kernel_rfl) (by kernel_rfl) (by kernel_rfl) (by rfl) hHeld (fun _ _ _ h => h) ?_ ?_
          rotate_left
          · intro w' hSw; (try dsimp only at hSw); go_simp <;> with_reducible rfl
          simp only [Act.put, List.setIfInBounds_toArray, List.set_cons_zero, List.set_cons_succ]
          refine heldTake 13 (some 76) (v := ?_) rfl rfl (by kernel_rfl) (by kernel_rfl) (by kernel_rfl) (by rfl) hHeld (fun _ _ _ h => h) ?_ ?_
          rotate_left
          · intro w' hSw; (try dsimp only at hSw); go_simp <;> with_reducible rfl
          simp only [Act.put, List.setIfInBounds_toArray, List.set_cons_zero, List.set_cons_succ]
          refine heldTake 14 (some 77) (v := ?_) rfl rfl (by kernel_rfl) (by kernel_rfl) (by kernel_rfl) (by rfl) hHeld (fun _ _ _ h => h) ?_ ?_
          rotate_left
          · intro w' hSw; (try dsimp only at hSw); go_simp <;> with_reducible rfl
          simp only [Act.put, List.setIfInBounds_toArray, List.set_cons_zero, List.set_cons_succ]
          refine heldTake 15 (some 78) (v := ?_) rfl rfl (by kernel_rfl) (by kernel_rfl) (by kernel_rfl) (by rfl) hHeld (fun _ _ _ h => h) ?_ ?_
          rotate_left
          · intro w' hSw; (try dsimp only at hSw); go_simp <;> with_reducible rfl
          simp only [Act.put, List.setIfInBounds_toArray, List.set_cons_zero, List.set_cons_succ]
          refine heldTake 16 (some 79) (v := ?_) rfl rfl (by kernel_rfl) (by kernel_rfl) (by kernel_rfl) (by rfl) hHeld (fun _ _ _ h => h) ?_ ?_
          rotate_left
          · intro w' hSw; (try dsimp only at hSw); go_simp <;> with_reducible rfl
          simp only [Act.put, List.setIfInBounds_toArray, List.set_cons_zero, List.set_cons_succ]
          refine heldTake 17 (some 80) (v := ?_) rfl rfl (by kernel_rfl) (by kernel_rfl) (by kernel_rfl) (by rfl) hHeld (fun _ _ _ h => h) ?_ ?_
          rotate_left
          · intro w' hSw; (try dsimp only at hSw); go_simp <;> with_reducible rfl
          simp only [Act.put, List.setIfInBounds_toArray, List.set_cons_zero, List.set_cons_succ]
          refine heldTake 18 (some 81) (v := ?_) rfl rfl (by kernel_rfl) (by kernel_rfl) (by kernel_rfl) (by rfl) hHeld (fun _ _ _ h => h) ?_ ?_
          rotate_left
          · intro w' hSw; (try dsimp only at hSw); have q0 := (World.cell?_of_block (w := wr) (a := ⟨ba, oa + j * 3, none⟩) hSw).trans a0; have q1 := (World.cell?_of_block (w := wr) (a := ⟨ba, oa + j * 3 + 1, none⟩) hSw).trans a1; have q2 := (World.cell?_of_block (w := wr) (a := ⟨ba, oa + j * 3 + 2, none⟩) hSw).trans a2; go_simp <;> with_reducible rfl
          simp only [Act.put, List.setIfInBounds_toArray, List.set_cons_zero, List.set_cons_succ]
          refine heldCall 19 (some 82) (f := ?_) (args := ?_) rfl rfl (by kernel_rfl) (by rfl) ?_ ?_
          rotate_left 2
          · go_simp <;> first | (constructor <;> with_reducible rfl) | with_reducible rfl
          (with_reducible refine CA.out.mono ?_)
          rintro e3 w3 ⟨rfl, t3, hi3, hT3⟩
          have hk3 : w3.heap[ba]? = wr.heap[ba]? := (hT3.1.2.2.1.block ba (by omega)).trans HKB.out
          refine ⟨_, rfl, keepAnd ?_ (fun hNew => ?_)⟩
          · exact hk3
          clear hHeld
          have hHeld := hNew
          clear hNew
          simp only [Act.put, List.setIfInBounds_toArray, List.set_cons_zero, List.set_cons_succ]
          refine wpAnyH_done (by kernel_rfl) ?_ _
          refine NoPanic.normal ?_
          clear CA a0 a1 a2
          go_wp2_with fail
          go_roundw
          case rel =>
            refine ⟨k + 1, t3, by omega, by go_num, hT3, by rw [hi3]; exact Nat.le_trans (len_addF _ _) (by omega), HS3.out.add hi3 (fun x => ?_)⟩
            have hj := HJ.out
            rw [show la.length - (k + 1) = j by omega, show la.length - k = j + 1 by omega, drop_mem HGA.out x]
            constructor
            · rintro (h | h | h)
              · exact .inl (.inl h)
              · exact .inr h
              · exact .inl (.inr h)
            · rintro ((h | h) | h)
              · exact .inl h
              · exact .inr (.inr h)
              · exact .inr (.inl h)
          case measure => simp [intOf]; omega
        case neg =>
        obtain rfl : k = la.length := by omega
        clear hlt3 hk
        go_wp2_with fail
        go_loopw [86] (fun i wr => ∃ (k : Nat) (t : Tr), k ≤ lb.length ∧ i = .int .i64 (k : Int) ∧ Two B W wr T1 t1 T2 t ∧ t.items.length ≤ 200 ∧ SetIs t (fun x => x ∈ la ∨ (x ∈ lb ∧ x ∉ lb.take k))) (fun i _ => lb.length - (intOf i).toNat)
        case atStart => exact ⟨0, t3', Nat.zero_le _, rfl, hTw3, by omega, HS3.out.to (fun x => by simp [or_comm])⟩
        case round =>
          obtain ⟨k, t4, hk, rfl, hTw4, htk4, hS4⟩ := hrel
          have HS4 := Lib.hid hS4
          clear hS4 hTw3
          by_cases hlt4 : k < lb.length
          case pos =>
            have hlt := hlt4
            have hlr : Rd wr (· < X) 3 (.slice A' lb.length c') lb.length (icv lb) := hlb'.keep (fun b hb => hTw4.1.2.2.1.block b (by omega))
            have hga : lb[k]? = some lb[k] := List.getElem?_eq_getElem hlt
            obtain ⟨ba, oa, rfl, _, a0, a1, a2⟩ := RdIt.elem hlr hga
            have HGA := Lib.hid hga
            clear hga
            generalize lb[k] = x at *
            obtain ⟨xp, xq, xn⟩ := x
            dsimp only at a0 a1 a2
            obtain ⟨V, hV⟩ : ∃ V, V = wr.alloc (.cells #[.int .i64 xp, .int .i64 xq, .int .i64 xn] 30) := ⟨_, rfl⟩
            have hbV : Below wr.heap.size wr V := by rw [hV]; exact Below.of_alloc _
            have hPV : V.heap[wr.heap.size]? = some (.cells #[.int .i64 xp, .int .i64 xq, .int .i64 xn] 30 (0, 0)) := by rw [hV]; exact heap_alloc_new wr _
            have d0 : V.cell? ⟨wr.heap.size, 0, none⟩ = some (.int .i64 xp) := cell_of_row _ _ 0 _ _ _ hPV
            have d1 : V.cell? ⟨wr.heap.size, 1, none⟩ = some (.int .i64 xq) := cell_of_row _ _ 1 _ _ _ hPV
            have d2 : V.cell? ⟨wr.heap.size, 2, none⟩ = some (.int .i64 xn) := cell_of_row _ _ 2 _ _ _ hPV
            have f0 := d0; have f1 := d1; have f2 := d2; rw [hV] at d0 d1 d2
            have HV := Lib.hid hV
            have HTV := Lib.hid (hTw4.below hbV)
            have hTV := HTV
            have hsV : wr.heap.size < V.heap.size := (Array.getElem?_eq_some_iff.1 hPV).1
            have hBV : B ≤ V.heap.size := HTV.out.1.2.2.2
            have HKV := Lib.hid (fun (b : Nat) (hb : b < B) => HTV.out.1.2.2.1.block b hb)
            generalize hH : wr.heap.size = H at *
            clear hPV hbV hTw4 hlr HTV
            go_wp2_with fail
            rw [← HV.out]
            clear HV hV d0 d1 d2 hH
            go_loopw [18, 92] (fun f i w' => ∃ (j : Nat) (b : Bool), j ≤ la.length ∧ i = .int .i64 (j : Int) ∧ f = .bool b ∧ (b = true ↔ (⟨xp, xq, xn⟩ : It) ∈ la.take j) ∧ Below V.heap.size V w') (fun _ i _ => la.length - (intOf i).toNat)
            case atStart => exact ⟨0, false, Nat.zero_le _, rfl, rfl, by simp, Below.refl _ _⟩
            case round =>
              obtain ⟨j, f, hj, rfl, rfl, hf, hb2⟩ := hrel
              have HF := Lib.hid hf
              clear hf
              have hs2 := hb2.size
              by_cases hltj : j < la.length
              case pos =>
                have hlt := hltj
                have hlr2 : Rd wr (· < X) 3 (.slice A la.length c) la.length (icv la) := hla'.keep (fun b hb => (hb2.block b (by omega)).trans (HKV.out b (by omega)))
                have hga : la[j]? = some la[j] := List.getElem?_eq_getElem hlt
                obtain ⟨ba, oa, rfl, _, y0, y1, y2⟩ := RdIt.elem hlr2 hga
                have HGB := Lib.hid hga
                clear hga
                generalize la[j] = y at *
                obtain ⟨yp, yq, yn⟩ := y
                dsimp only at y0 y1 y2
                have g0 := (hb2.cell (p := ⟨H, 0, none⟩) (show H < V.heap.size by omega)).trans f0
                have g1 := (hb2.cell (p := ⟨H, 1, none⟩) (show H < V.heap.size by omega)).trans f1
                have g2 := (hb2.cell (p := ⟨H, 2, none⟩) (show H < V.heap.size by omega)).trans f2
                obtain ⟨V2, hV2⟩ : ∃ V2, V2 = wr.alloc (.cells #[.int .i64 yp, .int .i64 yq, .int .i64 yn] 30) := ⟨_, rfl⟩
                have hbV2 : Below wr.heap.size wr V2 := by rw [hV2]; exact Below.of_alloc _
                have hPV2 : V2.heap[wr.heap.size]? = some (.cells #[.int .i64 yp, .int .i64 yq, .int .i64 yn] 30 (0, 0)) := by rw [hV2]; exact heap_alloc_new wr _
                have k0 : V2.cell? ⟨wr.heap.size, 0, none⟩ = some (.int .i64 yp) := cell_of_row _ _ 0 _ _ _ hPV2
                have k1 : V2.cell? ⟨wr.heap.size, 1, none⟩ = some (.int .i64 yq) := cell_of_row _ _ 1 _ _ _ hPV2
                have k2 : V2.cell? ⟨wr.heap.size, 2, none⟩ = some (.int .i64 yn) := cell_of_row _ _ 2 _ _ _ hPV2
                replace g0 := (hbV2.cell (p := ⟨H, 0, none⟩) (show H < wr.heap.size by omega)).trans g0
                replace g1 := (hbV2.cell (p := ⟨H, 1, none⟩) (show H < wr.heap.size by omega)).trans g1
                replace g2 := (hbV2.cell (p := ⟨H, 2, none⟩) (show H < wr.heap.size by omega)).trans g2
                rw [hV2] at g0 g1 g2 k0 k1 k2
                have HV2 := Lib.hid hV2
                clear hV2 hPV2 hlr2
                cases f with
                | true =>
                  go_wp2_with fail
                  rw [← HV2.out]
                  go_roundw
                  case rel => exact ⟨j + 1, true, by omega, by go_num, rfl, ⟨fun _ => (take_mem HGB.out _).2 (.inl (HF.out.1 rfl)), fun _ => rfl⟩, hb2.trans (hbV2.mono hb2.size)⟩
                  case measure => simp [intOf]; omega
                | false =>
                  by_cases hxy : (⟨xp, xq, xn⟩ : It) = ⟨yp, yq, yn⟩
                  · have HIT := Lib.hid (show (true = true ↔ (⟨xp, xq, xn⟩ : It) ∈ la.take (j + 1)) from ⟨fun _ => (take_mem HGB.out _).2 (.inr hxy), fun _ => rfl⟩)
                    clear HGB
                    injection hxy with e1 e2 e3
                    subst e1; subst e2; subst e3
                    go_wp2_with fail
                    rw [← HV2.out]
                    go_roundw
                    case rel => exact ⟨j + 1, true, by omega, by go_num, rfl, HIT.out, hb2.trans (hbV2.mono hb2.size)⟩
                    case measure => simp [intOf]; omega
                  · have HIF := Lib.hid (show (false = true ↔ (⟨xp, xq, xn⟩ : It) ∈ la.take (j + 1)) from ⟨fun h => (by cases h), fun h => by
                      rcases (take_mem HGB.out _).1 h with h | h
                      · exact HF.out.2 h
                      · exact absurd h hxy⟩)
                    by_cases e1 : xp = yp
                    · by_cases e2 : xq = yq
                      · have e3 : ¬ xn = yn := fun e3 => hxy (It.ext' e1 e2 e3)
                        rw [e1] at g0
                        rw [e2] at g1
                        have n1 : (xn == yn) = false := by rw [beq_eq_false_iff_ne]; exact e3
                        clear e1 e2 e3
                        go_wp2_with fail
                        rw [← HV2.out]
                        go_roundw
                        case rel => exact ⟨j + 1, false, by omega, by go_num, rfl, HIF.out, hb2.trans (hbV2.mono hb2.size)⟩
                        case measure => simp [intOf]; omega
                      · rw [e1] at g0
                        have n1 : (xq == yq) = false := by rw [beq_eq_false_iff_ne]; exact e2
                        clear e1 e2
                        go_wp2_with fail
                        rw [← HV2.out]
                        go_roundw
                        case rel => exact ⟨j + 1, false, by omega, by go_num, rfl, HIF.out, hb2.trans (hbV2.mono hb2.size)⟩
                        case measure => simp [intOf]; omega
                    · have n1 : (xp == yp) = false := by rw [beq_eq_false_iff_ne]; exact e1
                      clear e1
                      go_wp2_with fail
                      rw [← HV2.out]
                      go_roundw
                      case rel => exact ⟨j + 1, false, by omega, by go_num, rfl, HIF.out, hb2.trans (hbV2.mono hb2.size)⟩
                      case measure => simp [intOf]; omega
              case neg =>
              obtain rfl : j = la.length := by omega
              clear hltj hj
              rw [List.take_length] at HF
              have hTn := (hTV.out.below hb2)
              cases f with
              | true =>
                go_wp2_with fail
                go_roundw
                case rel =>
                  refine ⟨k + 1, t4, by omega, by go_num, hTn, htk4, HS4.out.to (fun z => ?_)⟩
                  have hx := HF.out.1 rfl
                  rw [take_mem HGA.out z]
                  constructor
                  · rintro (h | ⟨h1, h2⟩)
                    · exact .inl h
                    · exact .inr ⟨h1, fun h => h2 (.inl h)⟩
                  · rintro (h | ⟨h1, h2⟩)
                    · exact .inl h
                    · by_cases hz : z = ⟨xp, xq, xn⟩
                      · exact .inl (hz ▸ hx)
                      · exact .inr ⟨h1, fun h => h.elim h2 hz⟩
                case measure => simp [intOf]; omega
              | false =>
                have g0 := (hb2.cell (p := ⟨H, 0, none⟩) (show H < V.heap.size by omega)).trans f0
                have g1 := (hb2.cell (p := ⟨H, 1, none⟩) (show H < V.heap.size by omega)).trans f1
                have g2 := (hb2.cell (p := ⟨H, 2, none⟩) (show H < V.heap.size by omega)).trans f2
                have CA := Lib.hid (hTn.rem2 xp xq xn (by omega))
                clear hTn
                go_wp2_with fail
                (with_reducible refine CA.out.mono ?_)
                rintro e3 w3 ⟨rfl, t3, hi3, hT3⟩
                clear CA g0 g1 g2
                go_wp2_with fail
                go_roundw
                case rel =>
                  refine ⟨k + 1, t3, by omega, by go_num, hT3, by rw [hi3]; exact Nat.le_trans (len_remF' _ _) htk4, HS4.out.rem hi3 (fun z => ?_)⟩
                  have hx : (⟨xp, xq, xn⟩ : It) ∉ la := fun h => by have := HF.out.2 h; cases this
                  rw [take_mem HGA.out z]
                  constructor
                  · rintro (h | ⟨h1, h2⟩)
                    · exact ⟨.inl h, fun e => hx (e ▸ h)⟩
                    · exact ⟨.inr ⟨h1, fun h => h2 (.inl h)⟩, fun e => h2 (.inr e)⟩
                  · rintro ⟨h | ⟨h1, h2⟩, h3⟩
                    · exact .inl h
                    · exact .inr ⟨h1, fun h => h.elim h2 h3⟩
                case measure => simp [intOf]; omega
          case neg =>
          obtain rfl : k = lb.length := by omega
          clear hlt4 hk
          have hEq : t1.items = t4.items := srt_unique hTw4.1.srt hTw4.2.1.srt (fun z => by
            rw [HS1.out z, HS4.out z, List.take_length, List.take_length]
            constructor
            · rintro ⟨a, b⟩; exact ⟨a, .inl b⟩
            · rintro ⟨a, b | ⟨b, b'⟩⟩
              · exact ⟨a, b⟩
              · exact absurd b b')
          have hXr : X < wr.heap.size := Nat.lt_of_lt_of_le hBox hTw4.1.2.2.2
          have hPr := (hTw4.1.2.2.1.block X hBox).trans HPW.out
          have p0 : wr.cell? ⟨X, 0, none⟩ = some (.int .i64 p) := cell_of_row _ _ 0 _ _ _ hPr
          have p1 : wr.cell? ⟨X, 1, none⟩ = some (.int .i64 q) := cell_of_row _ _ 1 _ _ _ hPr
          clear hPr
          have HM1 := Lib.hid hTw4.1
          have HM2 := Lib.hid hTw4.2.1
          obtain ⟨L, hL⟩ : ∃ L, L = t1.items := ⟨_, rfl⟩
          have HI1 := Lib.hid hL.symm
          have HI2 := Lib.hid (hEq.symm.trans hL.symm)
          have hLl : L.length ≤ 100 := by rw [hL]; omega
          obtain ⟨R1, hR1⟩ : ∃ R, ovlF n (n + 1) L = R := ⟨_, rfl⟩
          obtain ⟨R2, hR2⟩ : ∃ R, ovlF p q L = R := ⟨_, rfl⟩
          have HR1 := Lib.hid hR1
          have HR2 := Lib.hid hR2
          clear hL hEq hTw4 hR1 hR2
          go_wp2_with fail
          refine wp_region_noPanic ?_
          refine wp_region_held_drew (S := (fun w' => Below wr.heap.size wr w')) (by kernel_rfl) ?_ (fun hHeld => ?_)
          · exact (Below.refl _ _).drew
          refine heldTake 0 (some 112) (v := ?_) rfl rfl (by kernel_rfl) (by kernel_rfl) (by kernel_rfl) (by rfl) hHeld (fun _ _ _ h => h) ?_ ?_
          rotate_left
          · intro w' hSw; (try dsimp only at hSw); go_simp <;> with_reducible rfl
          simp only [Act.put, List.setIfInBounds_toArray, List.set_cons_zero, List.set_cons_succ]
          refine heldTake 2 (some 114) (v := ?_) rfl rfl (by kernel_rfl) (by kernel_rfl) (by kernel_rfl) (by rfl) hHeld (fun _ _ _ h => h) ?_ ?_
          rotate_left
          · intro w' hSw; (try dsimp only at hSw); go_simp <;> with_reducible rfl
          simp only [Act.put, List.setIfInBounds_toArray, List.set_cons_zero, List.set_cons_succ]
          refine heldCall 1 (some 113) (f := ?_) (args := ?_) rfl rfl (by kernel_rfl) (by rfl) ?_ ?_
          rotate_left 2
          · go_simp <;> first | (constructor <;> with_reducible rfl) | with_reducible rfl
          (with_reducible refine (titems_m L HM1.out.drew HI1.out (by omega)).mono ?_)
          rintro e W1 ⟨A1, k1, rfl, H1, h11, h12, hO1, hb1⟩
          have hB1 : Below wr.heap.size wr W1 := Below.undrew hb1
          refine ⟨_, rfl, keepAnd ?_ (fun hNew => ?_)⟩
          · exact hB1
          clear hHeld
          have hHeld := hNew
          clear hNew
          simp only [Act.put, List.setIfInBounds_toArray, List.set_cons_zero, List.set_cons_succ]
          refine heldCall 3 (some 115) (f := ?_) (args := ?_) rfl rfl (by kernel_rfl) (by rfl) ?_ ?_
          rotate_left 2
          · go_simp <;> first | (constructor <;> with_reducible rfl) | with_reducible rfl
          (with_reducible refine (titems_m L (HM2.out.below hB1) HI2.out (by omega)).mono ?_)
          rintro e W2 ⟨A2, k2, rfl, H2, h21, h22, hO2, hb2⟩
          have hB2 : Below wr.heap.size wr W2 := hB1.trans (hb2.mono hB1.size)
          refine ⟨_, rfl, keepAnd ?_ (fun hNew => ?_)⟩
          · exact hB2
          clear hHeld
          have hHeld := hNew
          clear hNew
          simp only [Act.put, List.setIfInBounds_toArray, List.set_cons_zero, List.set_cons_succ]
          refine heldCall 4 (some 116) (f := ?_) (args := ?_) rfl rfl (by kernel_rfl) (by rfl) ?_ ?_
          rotate_left 2
          · go_simp <;> first | (constructor <;> with_reducible rfl) | with_reducible rfl
          (with_reducible refine (items_own (va := .slice A1 L.length k1) (vb := .slice A2 L.length k2) L L true (hO1.below hb2) hO2 (decide_eq_true rfl)).mono ?_)
          rintro e W3 ⟨rfl, hb3⟩
          have hB3 : Below wr.heap.size wr W3 := hB2.trans (hb3.mono hB2.size)
          refine ⟨_, rfl, keepAnd ?_ (fun hNew => ?_)⟩
          · exact hB3
          clear hHeld
          have hHeld := hNew
          clear hNew
          simp only [Act.put, List.setIfInBounds_toArray, List.set_cons_zero, List.set_cons_succ]
          refine heldTake 5 (some 117) (v := ?_) rfl rfl (by kernel_rfl) (by kernel_rfl) (by kernel_rfl) (by rfl) hHeld (fun _ _ _ h => h) ?_ ?_
          rotate_left
          · intro w' hSw; (try dsimp only at hSw); go_simp <;> with_reducible rfl
          simp only [Act.put, List.setIfInBounds_toArray, List.set_cons_zero, List.set_cons_succ]
          refine heldTake 6 (some 118) (v := ?_) rfl rfl (by kernel_rfl) (by kernel_rfl) (by kernel_rfl) (by rfl) hHeld (fun _ _ _ h => h) ?_ ?_
          rotate_left
          · intro w' hSw; (try dsimp only at hSw); go_simp <;> with_reducible rfl
          simp only [Act.put, List.setIfInBounds_toArray, List.set_cons_zero, List.set_cons_succ]
          refine heldTake 8 (some 120) (v := ?_) rfl rfl (by kernel_rfl) (by kernel_rfl) (by kernel_rfl) (by rfl) hHeld (fun _ _ _ h => h) ?_ ?_
          rotate_left
          · intro w' hSw; (try dsimp only at hSw); go_simp <;> with_reducible rfl
          simp only [Act.put, List.setIfInBounds_toArray, List.set_cons_zero, List.set_cons_succ]
          refine heldCall 7 (some 119) (f := ?_) (args := ?_) rfl rfl (by kernel_rfl) (by rfl) ?_ ?_
          rotate_left 2
          · go_simp <;> first | (constructor <;> with_reducible rfl) | with_reducible rfl
          (with_reducible refine (tlen_m (HM1.out.below hB3) (L.length : Int) (by rw [HI1.out])).mono ?_)
          rintro e w' ⟨rfl, rfl⟩
          refine ⟨_, rfl, keepAnd ?_ (fun hNew => ?_)⟩
          · exact hB3
          clear hHeld
          have hHeld := hNew
          clear hNew
          simp only [Act.put, List.setIfInBounds_toArray, List.set_cons_zero, List.set_cons_succ]
          refine heldCall 9 (some 121) (f := ?_) (args := ?_) rfl rfl (by kernel_rfl) (by rfl) ?_ ?_
          rotate_left 2
          · go_simp <;> first | (constructor <;> with_reducible rfl) | with_reducible rfl
          (with_reducible refine (tlen_m (HM2.out.below hB3) (L.length : Int) (by rw [HI2.out])).mono ?_)
          rintro e w' ⟨rfl, rfl⟩
          refine ⟨_, rfl, keepAnd ?_ (fun hNew => ?_)⟩
          · exact hB3
          clear hHeld
          have hHeld := hNew
          clear hNew
          simp only [Act.put, List.setIfInBounds_toArray, List.set_cons_zero, List.set_cons_succ]
          refine heldTake 10 (some 122) (v := ?_) rfl rfl (by kernel_rfl) (by kernel_rfl) (by kernel_rfl) (by rfl) hHeld (fun _ _ _ h => h) ?_ ?_
          rotate_left
          · intro w' hSw; (try dsimp only at hSw); go_simp <;> with_reducible rfl
          simp only [Act.put, List.setIfInBounds_toArray, List.set_cons_zero, List.set_cons_succ]
          refine heldTake 11 (some 123) (v := ?_) rfl rfl (by kernel_rfl) (by kernel_rfl) (by kernel_rfl) (by rfl) hHeld (fun _ _ _ h => h) ?_ ?_
          rotate_left
          · intro w' hSw; (try dsimp only at hSw); go_simp <;> with_reducible rfl
          simp only [Act.put, List.setIfInBounds_toArray, List.set_cons_zero, List.set_cons_succ]
          refine heldTake 12 (some 124) (v := ?_) rfl rfl (by kernel_rfl) (by kernel_rfl) (by kernel_rfl) (by rfl) hHeld (fun _ _ _ h => h) ?_ ?_
          rotate_left
          · intro w' hSw; (try dsimp only at hSw); go_simp <;> with_reducible rfl
          simp only [Act.put, List.setIfInBounds_toArray, List.set_cons_zero, List.set_cons_succ]
          refine heldTake 13 (some 125) (v := ?_) rfl rfl (by kernel_rfl) (by kernel_rfl) (by kernel_rfl) (by rfl) hHeld (fun _ _ _ h => h) ?_ ?_
          rotate_left
          · intro w' hSw; (try dsimp only at hSw); go_simp <;> with_reducible rfl
          simp only [Act.put, List.setIfInBounds_toArray, List.set_cons_zero, List.set_cons_succ]
          refine heldTake 14 (some 126) (v := ?_) rfl rfl (by kernel_rfl) (by kernel_rfl) (by kernel_rfl) (by rfl) hHeld (fun _ _ _ h => h) ?_ ?_
          rotate_left
          · intro w' hSw; (try dsimp only at hSw); go_simp <;> with_reducible rfl
          simp only [Act.put, List.setIfInBounds_toArray, List.set_cons_zero, List.set_cons_succ]
          refine heldTake 16 (some 128) (v := ?_) rfl rfl (by kernel_rfl) (by kernel_rfl) (by kernel_rfl) (by rfl) hHeld (fun _ _ _ h => h) ?_ ?_
          rotate_left
          · intro w' hSw; (try dsimp only at hSw); go_simp <;> with_reducible rfl
          simp only [Act.put, List.setIfInBounds_toArray, List.set_cons_zero, List.set_cons_succ]
          refine heldTake 17 (some 129) (v := ?_) rfl rfl (by kernel_rfl) (by kernel_rfl) (by kernel_rfl) (by rfl) hHeld (fun _ _ _ h => h) ?_ ?_
          rotate_left
          · intro w' hSw; (try dsimp only at hSw); go_simp <;> with_reducible rfl
          simp only [Act.put, List.setIfInBounds_toArray, List.set_cons_zero, List.set_cons_succ]
          refine heldCall 15 (some 127) (f := ?_) (args := ?_) rfl rfl (by kernel_rfl) (by rfl) ?_ ?_
          rotate_left 2
          · go_simp <;> first | (constructor <;> with_reducible rfl) | with_reducible rfl
          (with_reducible refine (tstab_m n L R1 (HM1.out.below hB3) HI1.out (by omega) HR1.out).mono ?_)
          rintro e W4 ⟨A4, k4, rfl, H4, h41, h42, hO4, hb4⟩
          have hB4 : Below wr.heap.size wr W4 := hB3.trans (hb4.mono hB3.size)
          refine ⟨_, rfl, keepAnd ?_ (fun hNew => ?_)⟩
          · exact hB4
          clear hHeld
          have hHeld := hNew
          clear hNew
          simp only [Act.put, List.setIfInBounds_toArray, List.set_cons_zero, List.set_cons_succ]
          refine heldCall 18 (some 130) (f := ?_) (args := ?_) rfl rfl (by kernel_rfl) (by rfl) ?_ ?_
          rotate_left 2
          · go_simp <;> first | (constructor <;> with_reducible rfl) | with_reducible rfl
          (with_reducible refine (tstab_m n L R1 (HM2.out.below hB4) HI2.out (by omega) HR1.out).mono ?_)
          rintro e W5 ⟨A5, k5, rfl, H5, h51, h52, hO5, hb5⟩
          have hB5 : Below wr.heap.size wr W5 := hB4.trans (hb5.mono hB4.size)
          refine ⟨_, rfl, keepAnd ?_ (fun hNew => ?_)⟩
          · exact hB5
          clear hHeld
          have hHeld := hNew
          clear hNew
          simp only [Act.put, List.setIfInBounds_toArray, List.set_cons_zero, List.set_cons_succ]
          refine heldCall 19 (some 131) (f := ?_) (args := ?_) rfl rfl (by kernel_rfl) (by rfl) ?_ ?_
          rotate_left 2
          · go_simp <;> first | (constructor <;> with_reducible rfl) | with_reducible rfl
          (with_reducible refine (ints_own (va := .slice A4 R1.length k4) (vb := .slice A5 R1.length k5) R1 R1 true (hO4.below hb5) hO5 (decide_eq_true rfl)).mono ?_)
          rintro e W6 ⟨rfl, hb6⟩
          have hB6 : Below wr.heap.size wr W6 := hB5.trans (hb6.mono hB5.size)
          refine ⟨_, rfl, keepAnd ?_ (fun hNew => ?_)⟩
          · exact hB6
          clear hHeld
          have hHeld := hNew
          clear hNew
          simp only [Act.put, List.setIfInBounds_toArray, List.set_cons_zero, List.set_cons_succ]
          refine heldTake 20 (some 132) (v := ?_) rfl rfl (by kernel_rfl) (by kernel_rfl) (by kernel_rfl) (by rfl) hHeld (fun _ _ _ h => h) ?_ ?_
          rotate_left
          · intro w' hSw; (try dsimp only at hSw); go_simp <;> with_reducible rfl
          simp only [Act.put, List.setIfInBounds_toArray, List.set_cons_zero, List.set_cons_succ]
          refine heldTake 21 (some 133) (v := ?_) rfl rfl (by kernel_rfl) (by kernel_rfl) (by kernel_rfl) (by rfl) hHeld (fun _ _ _ h => h) ?_ ?_
          rotate_left
          · intro w' hSw; (try dsimp only at hSw); go_simp <;> with_reducible rfl
          simp only [Act.put, List.setIfInBounds_toArray, List.set_cons_zero, List.set_cons_succ]
          refine heldTake 22 (some 134) (v := ?_) rfl rfl (by kernel_rfl) (by kernel_rfl) (by kernel_rfl) (by rfl) hHeld (fun _ _ _ h => h) ?_ ?_
          rotate_left
          · intro w' hSw; (try dsimp only at hSw); go_simp <;> with_reducible rfl
          simp only [Act.put, List.setIfInBounds_toArray, List.set_cons_zero, List.set_cons_succ]
          refine heldTake 23 (some 135) (v := ?_) rfl rfl (by kernel_rfl) (by kernel_rfl) (by kernel_rfl) (by rfl) hHeld (fun _ _ _ h => h) ?_ ?_
          rotate_left
          · intro w' hSw; (try dsimp only at hSw); have q0 := (hSw.cell (p := ⟨X, 0, none⟩) (show X < wr.heap.size by omega)).trans p0; have q1 := (hSw.cell (p := ⟨X, 1, none⟩) (show X < wr.heap.size by omega)).trans p1; go_simp <;> with_reducible rfl
          simp only [Act.put, List.setIfInBounds_toArray, List.set_cons_zero, List.set_cons_succ]
          refine heldTake 25 (some 137) (v := ?_) rfl rfl (by kernel_rfl) (by kernel_rfl) (by kernel_rfl) (by rfl) hHeld (fun _ _ _ h => h) ?_ ?_
          rotate_left
          · intro w' hSw; (try dsimp only at hSw); go_simp <;> with_reducible rfl
          simp only [Act.put, List.setIfInBounds_toArray, List.set_cons_zero, List.set_cons_succ]
          refine heldTake 26 (some 138) (v := ?_) rfl rfl (by kernel_rfl) (by kernel_rfl) (by kernel_rfl) (by rfl) hHeld (fun _ _ _ h => h) ?_ ?_
          rotate_left
          · intro w' hSw; (try dsimp only at hSw); have q0 := (hSw.cell (p := ⟨X, 0, none⟩) (show X < wr.heap.size by omega)).trans p0; have q1 := (hSw.cell (p := ⟨X, 1, none⟩) (show X < wr.heap.size by omega)).trans p1; go_simp <;> with_reducible rfl
          simp only [Act.put, List.setIfInBounds_toArray, List.set_cons_zero, List.set_cons_succ]
          refine heldCall 24 (some 136) (f := ?_) (args := ?_) rfl rfl (by kernel_rfl) (by rfl) ?_ ?_
          rotate_left 2
          · go_simp <;> first | (constructor <;> with_reducible rfl) | with_reducible rfl
          (with_reducible refine (tovl_m p q L R2 (HM1.out.below hB6) HI1.out (by omega) HR2.out).mono ?_)
          rintro e W7 ⟨A7, k7, rfl, H7, h71, h72, hO7, hb7⟩
          have hB7 : Below wr.heap.size wr W7 := hB6.trans (hb7.mono hB6.size)
          refine ⟨_, rfl, keepAnd ?_ (fun hNew => ?_)⟩
          · exact hB7
          clear hHeld
          have hHeld := hNew
          clear hNew
          simp only [Act.put, List.setIfInBounds_toArray, List.set_cons_zero, List.set_cons_succ]
          refine heldCall 27 (some 139) (f := ?_) (args := ?_) rfl rfl (by kernel_rfl) (by rfl) ?_ ?_
          rotate_left 2
          · go_simp <;> first | (constructor <;> with_reducible rfl) | with_reducible rfl
          (with_reducible refine (tovl_m p q L R2 (HM2.out.below hB7) HI2.out (by omega) HR2.out).mono ?_)
          rintro e W8 ⟨A8, k8, rfl, H8, h81, h82, hO8, hb8⟩
          have hB8 : Below wr.heap.size wr W8 := hB7.trans (hb8.mono hB7.size)
          refine ⟨_, rfl, keepAnd ?_ (fun hNew => ?_)⟩
          · exact hB8
          clear hHeld
          have hHeld := hNew
          clear hNew
          simp only [Act.put, List.setIfInBounds_toArray, List.set_cons_zero, List.set_cons_succ]
          refine heldCall 28 (some 140) (f := ?_) (args := ?_) rfl rfl (by kernel_rfl) (by rfl) ?_ ?_
          rotate_left 2
          · go_simp <;> first | (constructor <;> with_reducible rfl) | with_reducible rfl
          (with_reducible refine (ints_own (va := .slice A7 R2.length k7) (vb := .slice A8 R2.length k8) R2 R2 true (hO7.below hb8) hO8 (decide_eq_true rfl)).mono ?_)
          rintro e W9 ⟨rfl, hb9⟩
          have hB9 : Below wr.heap.size wr W9 := hB8.trans (hb9.mono hB8.size)
          refine ⟨_, rfl, keepAnd ?_ (fun hNew => ?_)⟩
          · exact hB9
          clear hHeld
          have hHeld := hNew
          clear hNew
          simp only [Act.put, List.setIfInBounds_toArray, List.set_cons_zero, List.set_cons_succ]
          refine heldTake 29 (some 141) (v := ?_) rfl rfl (by kernel_rfl) (by kernel_rfl) (by kernel_rfl) (by rfl) hHeld (fun _ _ _ h => h) ?_ ?_
          rotate_left
          · intro w' hSw; (try dsimp only at hSw); go_simp <;> with_reducible rfl
          simp only [Act.put, List.setIfInBounds_toArray, List.set_cons_zero, List.set_cons_succ]
          refine heldTake 30 (some 142) (v := ?_) rfl rfl (by kernel_rfl) (by kernel_rfl) (by kernel_rfl) (by rfl) hHeld (fun _ _ _ h => h) ?_ ?_
          rotate_left
          · intro w' hSw; (try dsimp only at hSw); go_simp <;> with_reducible rfl
          simp only [Act.put, List.setIfInBounds_toArray, List.set_cons_zero, List.set_cons_succ]
          refine heldCall 31 (some 143) (f := ?_) (args := ?_) rfl rfl (by kernel_rfl) (by rfl) ?_ ?_
          rotate_left 2
          · go_simp <;> first | (constructor <;> with_reducible rfl) | with_reducible rfl
          (with_reducible refine (works_any W9).mono ?_)
          rintro e W10 ⟨rfl, hb10⟩
          have hB10 : Below wr.heap.size wr W10 := hB9.trans (hb10.mono hB9.size)
          refine ⟨_, rfl, keepAnd ?_ (fun hNew => ?_)⟩
          · exact hB10
          clear hHeld
          have hHeld := hNew
          clear hNew
          simp only [Act.put, List.setIfInBounds_toArray, List.set_cons_zero, List.set_cons_succ]
          refine heldTake 32 (some 144) (v := ?_) rfl rfl (by kernel_rfl) (by kernel_rfl) (by kernel_rfl) (by rfl) hHeld (fun _ _ _ h => h) ?_ ?_
          rotate_left
          · intro w' hSw; (try dsimp only at hSw); go_simp <;> with_reducible rfl
          simp only [Act.put, List.setIfInBounds_toArray, List.set_cons_zero, List.set_cons_succ]
          refine heldTake 33 (some 8) (v := ?_) rfl rfl (by kernel_rfl) (by kernel_rfl) (by kernel_rfl) (by rfl) hHeld (fun _ _ _ h => h) ?_ ?_
          rotate_left
          · intro w' hSw; (try dsimp only at hSw); go_simp <;> with_reducible rfl
          simp only [Act.put, List.setIfInBounds_toArray, List.set_cons_zero, List.set_cons_succ]
          refine wpAnyH_done (by kernel_rfl) ?_ _
          refine NoPanic.normal ?_
          go_wp2_with fail
          go_ret
          exact ⟨rfl, HX.out ▸ (HBW.out.trans ((HM1.out.below hB10).2.2.1.mono (by omega)))⟩
end Go.Proofs.Ytkocehfapcmiiaa
