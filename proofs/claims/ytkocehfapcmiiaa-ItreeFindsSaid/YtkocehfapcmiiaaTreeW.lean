/-
  The reference tree: Put, Stab, Overlap.
-/
import Derived.Test.YtkocehfapcmiiaaTreeV
namespace Go.Proofs.Ytkocehfapcmiiaa
open Go.RowKit Go.Lib Go.IntWalk

theorem OwnI.lower {w : World} {b base : Nat} {v : Value} {l : List Int} (h : OwnI w b v l) (hb : base ≤ b) : OwnI w base v l := by
  obtain ⟨h1, h2⟩ := h
  refine ⟨h1, ?_⟩
  rcases h2 with h2 | ⟨g, cap, cur, hv, hg, r⟩
  · exact .inl h2
  · exact .inr ⟨g, cap, cur, hv, Nat.le_trans hb hg, r⟩
theorem rd_int (w : World) (x : Int) : Rd (w.alloc (.cells #[.int .i64 x] 3)) (· = w.heap.size) 1 (.slice (some ⟨w.heap.size, 0, none⟩) 1 1) 1 [.int .i64 x] := Rd.new' w w.heap.size rfl [.int .i64 x] 3 1 1 rfl (by unfold maxLen; omega)
theorem ovl_succ {p q : Int} {l : List It} {k : Nat} {y : It} (hk : l[k]? = some y) : Tr.ovl p q (l.take (k + 1)) = Tr.ovl p q (l.take k) ++ if y.fr < q ∧ p < y.to then [y.id] else [] := by
  obtain ⟨h, e⟩ := List.getElem?_eq_some_iff.1 hk
  rw [List.take_succ_eq_append_getElem h, Tr.ovl_append, e, Tr.ovl_cons, show Tr.ovl p q [] = [] from rfl, List.append_nil]
theorem putAll_len (p q : Int) (l : List It) : (putAll (Tr.ovl p q l)).length ≤ l.length := Nat.le_trans (putAll_spec _).2.2 (ovl_len p q l)
theorem stab_eq {a : Int} {l : List It} (h : ∀ i ∈ l, vldP i.fr i.to = true) : putAll (Tr.ovl a (a + 1) l) = ovlF a (a + 1) l := by
  unfold ovlF
  by_cases hv : vldP a (a + 1) = true
  · rw [if_pos hv]
  · rw [if_neg hv, Tr.ovl_none fun i hi hh => hv (vld_of (by have := of_decide_eq_true (h i hi); omega))]
    rfl

set_option maxRecDepth 100000 in
set_option maxHeartbeats 8000000 in
theorem rput_any (F : Nat → Prop) (v : Value) (l : List Int) (n : Int) (w : World) (hd : Rd w F 1 v l.length (iv l)) (hF : ∀ b, F b → b < w.heap.size) (hl : l.length ≤ 1000) :
    Calls Try.prog 31 #[v, .int .i64 n] w (IntsM (putF n l) w) := by
  obtain ⟨Av, cv, rfl, x1, x2, x3⟩ := hd.open_
  have HX3 := Lib.hid x3
  unfold maxLen at x2
  clear x3
  generalize hbase : w.heap.size = base at *
  have HBASE := Lib.hid hbase
  have hbase1 : base ≤ w.heap.size := by omega
  clear hbase
  go_enter Try.func31, Try.ntmps31
  go_wp2_with fail
  go_loopw [5, 12] (fun u i wr => ∃ (k : Nat) (A : Option Addr) (c : Nat) (L : List Int), k ≤ l.length ∧ i = .int .i64 (k : Int) ∧ L = (([] : List Int) ++ (l.take k).filter (fun x => decide (x < n))) ∧ u = .slice A L.length c ∧ Hid (A = none → c = 0) ∧ L.length ≤ c ∧ c ≤ 2 ^ 63 - 1 ∧ OwnI wr base (.slice A L.length c) L ∧ Below base w wr) (fun _ i _ => l.length - (intOf i).toNat)
  case atStart => exact ⟨0, none, 0, [], Nat.zero_le _, rfl, by simp, rfl, Lib.hid (fun _ => rfl), Nat.le_refl _, by omega, World.ownsRow_nil _ _ _ _, Below.refl _ _⟩
  case round =>
    obtain ⟨k, A, c, L, hk, rfl, hL, rfl, HC, hc1, hc2, hOwr, hbr⟩ := hrel
    have hLl : L.length ≤ 2 * l.length + 1 := by rw [hL]; rw [List.length_append, List.length_nil]; have := filt_le (l := l) (k := k) (f := (fun x => decide (x < n))); omega
    have HL := Lib.hid hL
    have hsr := hbr.size
    clear hL
    by_cases hlt : k < l.length
    case pos =>
      have hlr := hd.keep (w' := wr) (fun b hb => hbr.block b (by have := hF b hb; omega))
      have hga : l[k]? = some l[k] := List.getElem?_eq_getElem hlt
      obtain ⟨ba, oa, rfl, _, a0⟩ := RdI.elem hlr hga
      have HGA := Lib.hid hga
      clear hga hlr
      generalize l[k] = x at *
      by_cases hlt' : x < n
      · have HFS := Lib.hid (show (([] : List Int) ++ (l.take (k + 1)).filter (fun x => decide (x < n))) = (([] : List Int) ++ (l.take k).filter (fun x => decide (x < n))) ++ [x] by rw [filt_succ HGA.out, if_pos (decide_eq_true hlt')]; simp only [List.append_assoc])
        clear HGA
        have hnew := rd_int wr x
        have hOa : OwnI (wr.alloc (.cells #[.int .i64 x] 3)) base (.slice A L.length c) L := World.ownsRow.alloc hOwr _
        obtain ⟨i0, hi, hz0, hz1, hz2⟩ := info_parts infoI
        have hbs5 : base ≤ (wr.alloc (.cells #[.int .i64 x] 3)).heap.size := by simp; omega
        go_wp2_with (at_builtin; refine wpList_append_app _ rfl (.tmp 19) (.tmp 21) 32 rfl base 3 i0 _ 1 8 Try.underlying32 hi hz0 hz1 hz2 rfl (by omega) _ L.length (iv L) rfl (.inl hOa) (· = wr.heap.size) _ 1 [.int .i64 x] rfl hnew (one_one rfl) (by unfold maxLen; omega) (by omega) hbs5 ?_; intro v5 w5 _ h5 hg5 hb5' ha5; have h5 := h5 (.inr hOa); obtain ⟨L5, hL5⟩ : ∃ L5, L5 = L ++ [x] := ⟨_, rfl⟩; have hO5 : OwnI w5 base v5 L5 := (by rw [hL5]; exact own_cast (a := L) (b := [x]) h5); have hln5 : L5.length ≤ L.length + 1 := (by rw [hL5]; simp); have HL5 := Lib.hid hL5; have hb5 : Below base wr w5 := ((Below.of_alloc _).mono (by omega)).trans hb5'; clear h5 hg5 hb5' ha5 hL5 hOa hnew hi hz0 hz1 hz2 a0; obtain ⟨A5, k5, rfl, c51, c52, c53⟩ := hO5.open_; have HC53 := Lib.hid c53; unfold maxLen at c52; clear c53)
        have hbF := hbr.trans hb5
        clear hbr hb5
        go_wp2_with fail
        go_roundw
        case rel => exact ⟨k + 1, A5, k5, L5, by omega, by go_num, by rw [HFS.out, ← HL.out, HL5.out], rfl, HC53, c51, c52, hO5, hbF⟩
        case measure => simp [intOf]; omega
      · have HFS := Lib.hid (show (([] : List Int) ++ (l.take (k + 1)).filter (fun x => decide (x < n))) = (([] : List Int) ++ (l.take k).filter (fun x => decide (x < n))) by rw [filt_succ HGA.out, if_neg (by rw [decide_eq_false hlt']; simp), List.append_nil])
        clear HGA
        go_wp2_with fail
        go_roundw
        case rel => exact ⟨k + 1, A, c, L, by omega, by go_num, by rw [HFS.out, ← HL.out], rfl, HC, hc1, hc2, hOwr, hbr⟩
        case measure => simp [intOf]; omega
    case neg =>
    obtain rfl : k = l.length := by omega
    rw [List.take_length] at HL
    clear hlt hk
    have hnew := rd_int wr n
    have hOa : OwnI (wr.alloc (.cells #[.int .i64 n] 3)) base (.slice A L.length c) L := World.ownsRow.alloc hOwr _
    obtain ⟨i0, hi, hz0, hz1, hz2⟩ := info_parts infoI
    have hbs5 : base ≤ (wr.alloc (.cells #[.int .i64 n] 3)).heap.size := by simp; omega
    go_wp2_with (at_builtin; refine wpList_append_app _ rfl (.tmp 24) (.tmp 26) 32 rfl base 3 i0 _ 1 8 Try.underlying32 hi hz0 hz1 hz2 rfl (by omega) _ L.length (iv L) rfl (.inl hOa) (· = wr.heap.size) _ 1 [.int .i64 n] rfl hnew (one_one rfl) (by unfold maxLen; omega) (by omega) hbs5 ?_; intro v5 w5 _ h5 hg5 hb5' ha5; have h5 := h5 (.inr hOa); obtain ⟨L5, hL5⟩ : ∃ L5, L5 = L ++ [n] := ⟨_, rfl⟩; have hO5 : OwnI w5 base v5 L5 := (by rw [hL5]; exact own_cast (a := L) (b := [n]) h5); have hln5 : L5.length ≤ L.length + 1 := (by rw [hL5]; simp); have HL5 := Lib.hid hL5; have hb5 : Below base wr w5 := ((Below.of_alloc _).mono (by omega)).trans hb5'; clear h5 hg5 hb5' ha5 hL5 hOa hnew hi hz0 hz1 hz2 ; obtain ⟨A5, k5, rfl, c51, c52, c53⟩ := hO5.open_; have HC53 := Lib.hid c53; unfold maxLen at c52; clear c53)
    have hbS := hbr.trans hb5
    obtain ⟨L1, hL1⟩ : ∃ L1, L1 = l.filter (fun x => decide (x < n)) := ⟨_, rfl⟩
    have HL1 := Lib.hid hL1
    have hL1l : L1.length ≤ l.length := by rw [hL1]; exact List.length_filter_le _ _
    have HL5' := Lib.hid (show L5 = L1 ++ [n] by rw [HL5.out, HL.out, hL1]; simp)
    clear hL1 hb5 hOwr hbr HL5 HL hLl hsr
    go_wp2_with fail
    go_loopw [5, 30] (fun u i wr => ∃ (k : Nat) (A : Option Addr) (c : Nat) (L : List Int), k ≤ l.length ∧ i = .int .i64 (k : Int) ∧ L = ((L1 ++ [n]) ++ (l.take k).filter (fun x => decide (n < x))) ∧ u = .slice A L.length c ∧ Hid (A = none → c = 0) ∧ L.length ≤ c ∧ c ≤ 2 ^ 63 - 1 ∧ OwnI wr base (.slice A L.length c) L ∧ Below base w wr) (fun _ i _ => l.length - (intOf i).toNat)
    case atStart => exact ⟨0, A5, k5, L5, Nat.zero_le _, rfl, by rw [HL5'.out]; simp, rfl, HC53, c51, c52, hO5, hbS⟩
    case round =>
      clear hO5 hbS
      obtain ⟨k, A, c, L, hk, rfl, hL, rfl, HC, hc1, hc2, hOwr, hbr⟩ := hrel
      have hLl : L.length ≤ 2 * l.length + 1 := by rw [hL]; rw [List.length_append, List.length_append, List.length_cons, List.length_nil]; have := filt_le (l := l) (k := k) (f := (fun x => decide (n < x))); omega
      have HL := Lib.hid hL
      have hsr := hbr.size
      clear hL
      by_cases hlt : k < l.length
      case pos =>
        have hlr := hd.keep (w' := wr) (fun b hb => hbr.block b (by have := hF b hb; omega))
        have hga : l[k]? = some l[k] := List.getElem?_eq_getElem hlt
        obtain ⟨ba, oa, rfl, _, a0⟩ := RdI.elem hlr hga
        have HGA := Lib.hid hga
        clear hga hlr
        generalize l[k] = x at *
        by_cases hlt' : n < x
        · have HFS := Lib.hid (show ((L1 ++ [n]) ++ (l.take (k + 1)).filter (fun x => decide (n < x))) = ((L1 ++ [n]) ++ (l.take k).filter (fun x => decide (n < x))) ++ [x] by rw [filt_succ HGA.out, if_pos (decide_eq_true hlt')]; simp only [List.append_assoc])
          clear HGA
          have hnew := rd_int wr x
          have hOa : OwnI (wr.alloc (.cells #[.int .i64 x] 3)) base (.slice A L.length c) L := World.ownsRow.alloc hOwr _
          obtain ⟨i0, hi, hz0, hz1, hz2⟩ := info_parts infoI
          have hbs5 : base ≤ (wr.alloc (.cells #[.int .i64 x] 3)).heap.size := by simp; omega
          go_wp2_with (at_builtin; refine wpList_append_app _ rfl (.tmp 37) (.tmp 39) 32 rfl base 3 i0 _ 1 8 Try.underlying32 hi hz0 hz1 hz2 rfl (by omega) _ L.length (iv L) rfl (.inl hOa) (· = wr.heap.size) _ 1 [.int .i64 x] rfl hnew (one_one rfl) (by unfold maxLen; omega) (by omega) hbs5 ?_; intro v5 w5 _ h5 hg5 hb5' ha5; have h5 := h5 (.inr hOa); obtain ⟨L5, hL5⟩ : ∃ L5, L5 = L ++ [x] := ⟨_, rfl⟩; have hO5 : OwnI w5 base v5 L5 := (by rw [hL5]; exact own_cast (a := L) (b := [x]) h5); have hln5 : L5.length ≤ L.length + 1 := (by rw [hL5]; simp); have HL5 := Lib.hid hL5; have hb5 : Below base wr w5 := ((Below.of_alloc _).mono (by omega)).trans hb5'; clear h5 hg5 hb5' ha5 hL5 hOa hnew hi hz0 hz1 hz2 a0; obtain ⟨A5, k5, rfl, c51, c52, c53⟩ := hO5.open_; have HC53 := Lib.hid c53; unfold maxLen at c52; clear c53)
          have hbF := hbr.trans hb5
          clear hbr hb5
          go_wp2_with fail
          go_roundw
          case rel => exact ⟨k + 1, A5, k5, L5, by omega, by go_num, by rw [HFS.out, ← HL.out, HL5.out], rfl, HC53, c51, c52, hO5, hbF⟩
          case measure => simp [intOf]; omega
        · have HFS := Lib.hid (show ((L1 ++ [n]) ++ (l.take (k + 1)).filter (fun x => decide (n < x))) = ((L1 ++ [n]) ++ (l.take k).filter (fun x => decide (n < x))) by rw [filt_succ HGA.out, if_neg (by rw [decide_eq_false hlt']; simp), List.append_nil])
          clear HGA
          go_wp2_with fail
          go_roundw
          case rel => exact ⟨k + 1, A, c, L, by omega, by go_num, by rw [HFS.out, ← HL.out], rfl, HC, hc1, hc2, hOwr, hbr⟩
          case measure => simp [intOf]; omega
      case neg =>
      obtain rfl : k = l.length := by omega
      rw [List.take_length] at HL
      clear hlt hk
      go_wp2_with fail
      go_ret
      have hx : L = putF n l := by
        rw [HL.out, HL1.out]
        unfold putF
        rw [List.append_assoc]
        rfl
      rw [← hx]
      unfold IntsM
      rw [HBASE.out]
      exact ⟨A, c, rfl, HC, hc1, (by unfold maxLen; omega), hOwr, hbr⟩

set_option maxRecDepth 100000 in
set_option maxHeartbeats 8000000 in
theorem rstab_any (B : Nat) (v : Value) (l : List It) (a : Int) (w : World) (hB : B ≤ w.heap.size) (hd : DatIt B w v l) (hl : l.length ≤ 300) :
    Calls Try.prog 17 #[v, .int .i64 a] w (IntsM (putAll (Tr.ovl a (a + 1) l)) w) := by
  have hF := DatIt.lt hB
  obtain ⟨Av, cv, rfl, x1, x2, x3⟩ := hd.open_
  have HX3 := Lib.hid x3
  unfold maxLen at x2
  clear x3
  obtain ⟨W2, hW2⟩ : ∃ W2, W2 = w := ⟨_, rfl⟩
  subst hW2
  generalize hbase : W2.heap.size = base at *
  have HBASE := Lib.hid hbase
  have hbase1 : base ≤ W2.heap.size := by omega
  clear hbase
  go_enter Try.func17, Try.ntmps17
  go_wp2_with fail
  go_loopw [5, 10] (fun u i wr => ∃ (k : Nat) (A : Option Addr) (c : Nat) (L : List Int), k ≤ l.length ∧ i = .int .i64 (k : Int) ∧ L = putAll (Tr.ovl a (a + 1) (l.take k)) ∧ u = .slice A L.length c ∧ Hid (A = none → c = 0) ∧ L.length ≤ c ∧ c ≤ 2 ^ 63 - 1 ∧ OwnI wr base (.slice A L.length c) L ∧ Below base W2 wr) (fun _ i _ => l.length - (intOf i).toNat)
  case atStart => exact ⟨0, none, 0, [], Nat.zero_le _, rfl, by simp [Tr.ovl, putAll], rfl, Lib.hid (fun _ => rfl), Nat.le_refl _, by omega, World.ownsRow_nil _ _ _ _, Below.refl _ _⟩
  case round =>
    obtain ⟨k, A, c, L, hk, rfl, hL, rfl, HC, hc1, hc2, hOwr, hbr⟩ := hrel
    have hLl : L.length ≤ l.length := by rw [hL]; exact Nat.le_trans (putAll_len _ _ _) (by rw [List.length_take]; omega)
    have HL := Lib.hid hL
    have hsr := hbr.size
    clear hL
    by_cases hlt : k < l.length
    case pos =>
      have hlr := hd.keep (w' := wr) (fun b hb => hbr.block b (by have := hF b hb; omega))
      have hga : l[k]? = some l[k] := List.getElem?_eq_getElem hlt
      obtain ⟨ba, oa, rfl, _, a0, a1, a2⟩ := RdIt.elem hlr hga
      have HGA := Lib.hid hga
      clear hga
      generalize l[k] = y at *
      obtain ⟨yp, yq, yn⟩ := y
      dsimp only at a0 a1 a2
      obtain ⟨V, hV⟩ : ∃ V, V = wr.alloc (.cells #[.int .i64 yp, .int .i64 yq, .int .i64 yn] 30) := ⟨_, rfl⟩
      have hbV : Below wr.heap.size wr V := by rw [hV]; exact Below.of_alloc _
      have hPV : V.heap[wr.heap.size]? = some (.cells #[.int .i64 yp, .int .i64 yq, .int .i64 yn] 30 (0, 0)) := by rw [hV]; exact heap_alloc_new wr _
      have d0 : V.cell? ⟨wr.heap.size, 0, none⟩ = some (.int .i64 yp) := cell_of_row _ _ 0 _ _ _ hPV
      have d1 : V.cell? ⟨wr.heap.size, 1, none⟩ = some (.int .i64 yq) := cell_of_row _ _ 1 _ _ _ hPV
      have d2 : V.cell? ⟨wr.heap.size, 2, none⟩ = some (.int .i64 yn) := cell_of_row _ _ 2 _ _ _ hPV
      have m2 := d2
      have hsV : wr.heap.size < V.heap.size := (Array.getElem?_eq_some_iff.1 hPV).1
      have hOV : OwnI V base (.slice A L.length c) L := hOwr.below hbV
      have hbV' : Below base W2 V := hbr.trans (hbV.mono (by omega))
      have hbasV : base ≤ V.heap.size := by omega
      rw [hV] at d0 d1 d2
      have HV := Lib.hid hV
      have CP := Lib.hid (rput_any _ (.slice A L.length c) L yn V (Rd.of_own hOV) (fun b h => h.2) (by omega))
      clear hV hPV hlr hbV hOwr hbr
      by_cases h1 : yp ≤ a
      · by_cases h2 : a < yq
        · have HFS := Lib.hid (show putAll (Tr.ovl a (a + 1) (l.take (k + 1))) = putF yn (putAll (Tr.ovl a (a + 1) (l.take k))) by rw [ovl_succ HGA.out, if_pos ⟨by show yp < a + 1; omega, h2⟩, putAll_snoc])
          clear HGA
          go_wp2_with fail
          rw [← HV.out]
          (with_reducible refine CP.out.mono ?_)
          rintro e5 w5 ⟨A5, k5, rfl, H5, h51, h52, hO5, hb5⟩
          clear CP
          unfold maxLen at h52
          have hO5' := hO5.lower hbasV
          have hbF := hbV'.trans (hb5.mono hbasV)
          clear hO5 hb5
          go_wp2_with fail
          go_roundw
          case rel => exact ⟨k + 1, A5, k5, _, by omega, by go_num, by rw [HFS.out, ← HL.out], rfl, H5, h51, h52, hO5', hbF⟩
          case measure => simp [intOf]; omega
        · have HFS := Lib.hid (show putAll (Tr.ovl a (a + 1) (l.take (k + 1))) = putAll (Tr.ovl a (a + 1) (l.take k)) by rw [ovl_succ HGA.out, if_neg (fun h => h2 h.2), List.append_nil])
          clear HGA
          go_wp2_with fail
          rw [← HV.out]
          go_roundw
          case rel => exact ⟨k + 1, A, c, L, by omega, by go_num, by rw [HFS.out, ← HL.out], rfl, HC, hc1, hc2, hOV, hbV'⟩
          case measure => simp [intOf]; omega
      · have HFS := Lib.hid (show putAll (Tr.ovl a (a + 1) (l.take (k + 1))) = putAll (Tr.ovl a (a + 1) (l.take k)) by rw [ovl_succ HGA.out, if_neg (fun h => h1 (by have : yp < a + 1 := h.1; omega)), List.append_nil])
        clear HGA
        go_wp2_with fail
        rw [← HV.out]
        go_roundw
        case rel => exact ⟨k + 1, A, c, L, by omega, by go_num, by rw [HFS.out, ← HL.out], rfl, HC, hc1, hc2, hOV, hbV'⟩
        case measure => simp [intOf]; omega
    case neg =>
    obtain rfl : k = l.length := by omega
    rw [List.take_length] at HL
    clear hlt hk
    go_wp2_with fail
    go_ret
    have hx := HL.out
    rw [← hx]
    unfold IntsM
    rw [HBASE.out]
    exact ⟨A, c, rfl, HC, hc1, (by unfold maxLen; omega), hOwr, hbr⟩

theorem ovlF_succ {p q : Int} {l : List It} {k : Nat} {y : It} (hk : l[k]? = some y) (hv : vldP p q = true) (h : y.fr < q ∧ p < y.to) : ovlF p q (l.take (k + 1)) = putF y.id (ovlF p q (l.take k)) := by
  unfold ovlF
  rw [if_pos hv, if_pos hv, ovl_succ hk, if_pos h, putAll_snoc]
theorem ovlF_same {p q : Int} {l : List It} {k : Nat} {y : It} (hk : l[k]? = some y) (h : vldP p q = false ∨ ¬ (y.fr < q ∧ p < y.to)) : ovlF p q (l.take (k + 1)) = ovlF p q (l.take k) := by
  unfold ovlF
  rcases h with h | h
  · rw [if_neg (by rw [h]; simp), if_neg (by rw [h]; simp)]
  · rw [ovl_succ hk, if_neg h, List.append_nil]
set_option maxRecDepth 100000 in
set_option maxHeartbeats 8000000 in
theorem rovl_any (B : Nat) (v : Value) (l : List It) (p q : Int) (w : World) (hB : B ≤ w.heap.size) (hd : DatIt B w v l) (hl : l.length ≤ 300) :
    Calls Try.prog 18 #[v, perV p q] w (IntsM (ovlF p q l) w) := by
  have hF := DatIt.lt hB
  obtain ⟨Av, cv, rfl, x1, x2, x3⟩ := hd.open_
  have HX3 := Lib.hid x3
  unfold maxLen at x2
  clear x3
  obtain ⟨W2, hW⟩ : ∃ W, W = w.alloc (.cells #[.int .i64 p, .int .i64 q] 28) := ⟨_, rfl⟩
  have hbW : Below w.heap.size w W2 := by rw [hW]; exact Below.of_alloc _
  have hsW : W2.heap.size = w.heap.size + 1 := by rw [hW]; simp
  have hPW : W2.heap[w.heap.size]? = some (.cells #[.int .i64 p, .int .i64 q] 28 (0, 0)) := by rw [hW]; exact heap_alloc_new w _
  have p0 : W2.cell? ⟨w.heap.size, 0, none⟩ = some (.int .i64 p) := cell_of_row _ _ 0 _ _ _ hPW
  have p1 : W2.cell? ⟨w.heap.size, 1, none⟩ = some (.int .i64 q) := cell_of_row _ _ 1 _ _ _ hPW
  have HW := Lib.hid hW
  have HKD := Lib.hid (fun (b : Nat) (hb : b < w.heap.size) => hbW.block b hb)
  have HBW := Lib.hid hbW
  clear hW hPW hbW
  generalize hX : w.heap.size = X at *
  have HX := Lib.hid hX
  clear hX
  obtain ⟨base, hbase⟩ : ∃ base, base = W2.heap.size := ⟨_, rfl⟩
  have hbase1 : base ≤ W2.heap.size := by omega
  have hXb : X < base := by omega
  clear hbase
  go_enter Try.func18, Try.ntmps18
  go_wp2_with fail
  rw [← HW.out, HX.out]
  go_loopw [5, 10] (fun u i wr => ∃ (k : Nat) (A : Option Addr) (c : Nat) (L : List Int), k ≤ l.length ∧ i = .int .i64 (k : Int) ∧ L = ovlF p q (l.take k) ∧ u = .slice A L.length c ∧ Hid (A = none → c = 0) ∧ L.length ≤ c ∧ c ≤ 2 ^ 63 - 1 ∧ OwnI wr base (.slice A L.length c) L ∧ Below base W2 wr) (fun _ i _ => l.length - (intOf i).toNat)
  case atStart => exact ⟨0, none, 0, [], Nat.zero_le _, rfl, by simp [ovlF, Tr.ovl, putAll], rfl, Lib.hid (fun _ => rfl), Nat.le_refl _, by omega, World.ownsRow_nil _ _ _ _, Below.refl _ _⟩
  case round =>
    obtain ⟨k, A, c, L, hk, rfl, hL, rfl, HC, hc1, hc2, hOwr, hbr⟩ := hrel
    have hLl : L.length ≤ l.length := by rw [hL]; exact Nat.le_trans (ovlF_len _ _ _) (by rw [List.length_take]; omega)
    have HL := Lib.hid hL
    have hsr := hbr.size
    clear hL
    by_cases hlt : k < l.length
    case pos =>
      have hlr := hd.keep (w' := wr) (fun b hb => (hbr.block b (by have := hF b hb; omega)).trans (HKD.out b (hF b hb)))
      have hga : l[k]? = some l[k] := List.getElem?_eq_getElem hlt
      obtain ⟨ba, oa, rfl, _, a0, a1, a2⟩ := RdIt.elem hlr hga
      have HGA := Lib.hid hga
      clear hga
      generalize l[k] = y at *
      obtain ⟨yp, yq, yn⟩ := y
      dsimp only at a0 a1 a2
      obtain ⟨V, hV⟩ : ∃ V, V = wr.alloc (.cells #[.int .i64 yp, .int .i64 yq, .int .i64 yn] 30) := ⟨_, rfl⟩
      have hbV : Below wr.heap.size wr V := by rw [hV]; exact Below.of_alloc _
      have hPV : V.heap[wr.heap.size]? = some (.cells #[.int .i64 yp, .int .i64 yq, .int .i64 yn] 30 (0, 0)) := by rw [hV]; exact heap_alloc_new wr _
      have d0 : V.cell? ⟨wr.heap.size, 0, none⟩ = some (.int .i64 yp) := cell_of_row _ _ 0 _ _ _ hPV
      have d1 : V.cell? ⟨wr.heap.size, 1, none⟩ = some (.int .i64 yq) := cell_of_row _ _ 1 _ _ _ hPV
      have d2 : V.cell? ⟨wr.heap.size, 2, none⟩ = some (.int .i64 yn) := cell_of_row _ _ 2 _ _ _ hPV
      have g0 := (hbV.cell (p := ⟨X, 0, none⟩) (show X < wr.heap.size by omega)).trans ((hbr.cell (p := ⟨X, 0, none⟩) hXb).trans p0)
      have g1 := (hbV.cell (p := ⟨X, 1, none⟩) (show X < wr.heap.size by omega)).trans ((hbr.cell (p := ⟨X, 1, none⟩) hXb).trans p1)
      have m0 := d0; have m1 := d1; have m2 := d2; have o0 := g0; have o1 := g1
      have hsV : wr.heap.size < V.heap.size := (Array.getElem?_eq_some_iff.1 hPV).1
      have hOV : OwnI V base (.slice A L.length c) L := hOwr.below hbV
      have hbV' : Below base W2 V := hbr.trans (hbV.mono (by omega))
      have hbasV : base ≤ V.heap.size := by omega
      generalize hY : wr.heap.size = Y at *
      rw [hV] at d0 d1 d2 g0 g1
      have HV := Lib.hid hV
      have HY := Lib.hid hY
      have CV := Lib.hid (rvalid_any p q V)
      clear hV hPV hlr hbV hOwr hbr hY p0 p1
      cases hv : vldP p q with
      | false =>
        rw [hv] at CV
        have HFS := Lib.hid (ovlF_same (p := p) (q := q) HGA.out (.inl hv))
        clear HGA hv
        go_wp2_with fail
        rw [← HV.out]
        (with_reducible refine CV.out.mono ?_)
        rintro e4 w4 ⟨rfl, hb4⟩
        have hOV4 := hOV.below hb4
        have hbV4 := hbV'.trans (hb4.mono hbasV)
        clear CV hb4
        go_wp2_with fail
        go_roundw
        case rel => exact ⟨k + 1, A, c, L, by omega, by go_num, by rw [HFS.out, ← HL.out], rfl, HC, hc1, hc2, hOV4, hbV4⟩
        case measure => simp [intOf]; omega
      | true =>
      rw [hv] at CV
      by_cases h1 : yp < q
      · by_cases h2 : p < yq
        · have HFS := Lib.hid (ovlF_succ (p := p) (q := q) HGA.out hv ⟨h1, h2⟩)
          clear HGA hv
          go_wp2_with fail
          rw [← HV.out]
          (with_reducible refine CV.out.mono ?_)
          rintro e4 w4 ⟨rfl, hb4⟩
          have hOV4 := hOV.below hb4
          have hbV4 := hbV'.trans (hb4.mono hbasV)
          have hs4 := hb4.size
          have u0 := (hb4.cell (p := ⟨Y, 0, none⟩) (show Y < V.heap.size by omega)).trans m0
          have u1 := (hb4.cell (p := ⟨Y, 1, none⟩) (show Y < V.heap.size by omega)).trans m1
          have u2 := (hb4.cell (p := ⟨Y, 2, none⟩) (show Y < V.heap.size by omega)).trans m2
          have v0 := (hb4.cell (p := ⟨X, 0, none⟩) (show X < V.heap.size by omega)).trans o0
          have v1 := (hb4.cell (p := ⟨X, 1, none⟩) (show X < V.heap.size by omega)).trans o1
          clear d0 d1 d2 g0 g1 m0 m1 m2 o0 o1
          rw [HY.out]
          clear CV hb4
          have CP := Lib.hid (rput_any _ (.slice A L.length c) L yn w4 (Rd.of_own hOV4) (fun b h => h.2) (by omega))
          go_wp2_with fail
          (with_reducible refine CP.out.mono ?_)
          rintro e5 w5 ⟨A5, k5, rfl, H5, h51, h52, hO5, hb5⟩
          clear CP
          unfold maxLen at h52
          have hO5' := hO5.lower (show base ≤ w4.heap.size by omega)
          have hbF := hbV4.trans (hb5.mono (show base ≤ w4.heap.size by omega))
          clear hO5 hb5
          go_wp2_with fail
          go_roundw
          case rel => exact ⟨k + 1, A5, k5, _, by omega, by go_num, by rw [HFS.out, ← HL.out], rfl, H5, h51, h52, hO5', hbF⟩
          case measure => simp [intOf]; omega
        · have HFS := Lib.hid (ovlF_same (p := p) (q := q) HGA.out (.inr (fun h => h2 h.2)))
          clear HGA hv
          go_wp2_with fail
          rw [← HV.out]
          (with_reducible refine CV.out.mono ?_)
          rintro e4 w4 ⟨rfl, hb4⟩
          have hOV4 := hOV.below hb4
          have hbV4 := hbV'.trans (hb4.mono hbasV)
          have hs4 := hb4.size
          have u0 := (hb4.cell (p := ⟨Y, 0, none⟩) (show Y < V.heap.size by omega)).trans m0
          have u1 := (hb4.cell (p := ⟨Y, 1, none⟩) (show Y < V.heap.size by omega)).trans m1
          have u2 := (hb4.cell (p := ⟨Y, 2, none⟩) (show Y < V.heap.size by omega)).trans m2
          have v0 := (hb4.cell (p := ⟨X, 0, none⟩) (show X < V.heap.size by omega)).trans o0
          have v1 := (hb4.cell (p := ⟨X, 1, none⟩) (show X < V.heap.size by omega)).trans o1
          clear d0 d1 d2 g0 g1 m0 m1 m2 o0 o1
          rw [HY.out]
          clear CV hb4
          go_wp2_with fail
          go_roundw
          case rel => exact ⟨k + 1, A, c, L, by omega, by go_num, by rw [HFS.out, ← HL.out], rfl, HC, hc1, hc2, hOV4, hbV4⟩
          case measure => simp [intOf]; omega
      · have HFS := Lib.hid (ovlF_same (p := p) (q := q) HGA.out (.inr (fun h => h1 h.1)))
        clear HGA hv
        go_wp2_with fail
        rw [← HV.out]
        (with_reducible refine CV.out.mono ?_)
        rintro e4 w4 ⟨rfl, hb4⟩
        have hOV4 := hOV.below hb4
        have hbV4 := hbV'.trans (hb4.mono hbasV)
        have hs4 := hb4.size
        have u0 := (hb4.cell (p := ⟨Y, 0, none⟩) (show Y < V.heap.size by omega)).trans m0
        have u1 := (hb4.cell (p := ⟨Y, 1, none⟩) (show Y < V.heap.size by omega)).trans m1
        have u2 := (hb4.cell (p := ⟨Y, 2, none⟩) (show Y < V.heap.size by omega)).trans m2
        have v0 := (hb4.cell (p := ⟨X, 0, none⟩) (show X < V.heap.size by omega)).trans o0
        have v1 := (hb4.cell (p := ⟨X, 1, none⟩) (show X < V.heap.size by omega)).trans o1
        clear d0 d1 d2 g0 g1 m0 m1 m2 o0 o1
        rw [HY.out]
        clear CV hb4
        go_wp2_with fail
        go_roundw
        case rel => exact ⟨k + 1, A, c, L, by omega, by go_num, by rw [HFS.out, ← HL.out], rfl, HC, hc1, hc2, hOV4, hbV4⟩
        case measure => simp [intOf]; omega
    case neg =>
    obtain rfl : k = l.length := by omega
    rw [List.take_length] at HL
    clear hlt hk
    go_wp2_with fail
    go_ret
    have hx := HL.out
    rw [← hx]
    unfold IntsM
    rw [HX.out]
    exact ⟨A, c, rfl, HC, hc1, (by unfold maxLen; omega), hOwr.lower (by omega), HBW.out.trans (hbr.mono (by omega))⟩
end Go.Proofs.Ytkocehfapcmiiaa
