/-
  Manifests: files of a disk that a manifest does not mention.
-/
import Derived.Test.YthjephhojngiaaaGreatDoorManU
import Derived.Test.YthjephhojngiaaaGreatDoorRef
import Derived.Test.YthjephhojngiaaaGreatDoorFile
import Derived.Test.YthjephhojngiaaaGreatDoorManB2
namespace Go.Proofs.YthjephhojngiaaaGreatDoor
open Go.RowKit Go.Lib Go.IntWalk

theorem flsum_take {fl : FL} {k : Nat} {r : List UInt8 × List UInt8} (h : fl[k]? = some r) : flsum (fl.take (k + 1)) = flsum (fl.take k) + r.2.length := by
  obtain ⟨hk, e⟩ := List.getElem?_eq_some_iff.1 h
  rw [List.take_succ_eq_append_getElem hk, e]
  simp [flsum]
theorem flsum_take_le (fl : FL) (k : Nat) : flsum (fl.take k) ≤ flsum fl := by
  have h := congrArg flsum (List.take_append_drop k fl)
  simp only [flsum, List.map_append, List.sum_append] at *
  omega
set_option maxRecDepth 100000 in
set_option maxHeartbeats 2000000 in
theorem files_any (v : Value) (fl : FL) (w : World) (hv : FlsRd w.heap.size w v fl) (hl : flsum fl + fl.length ≤ 1048576) :
    Calls Tryz.prog 10 #[v] w fun e w' => e = .returned (.bool (decide ((flsum fl : Int) + fl.length ≤ 4000))) ∧ Below w.heap.size w w' := by
  obtain ⟨A, c, rfl, a1, a2, a3⟩ := hv.open_
  have HA3 := Lib.hid a3
  unfold maxLen at a2
  clear a3
  generalize hres : decide ((flsum fl : Int) + fl.length ≤ 4000) = res
  have HR := Lib.hid hres
  clear hres
  go_enter Tryz.func10, Tryz.ntmps10
  go_wp2_with fail
  go_loopw [3, 8] (fun n i wr => ∃ k : Nat, k ≤ fl.length ∧ i = .int .i64 (k : Int) ∧ n = .int .i64 ((flsum (fl.take k) : Int) + k) ∧ Below w.heap.size w wr) (fun _ i _ => fl.length - (intOf i).toNat)
  case atStart => exact ⟨0, Nat.zero_le _, rfl, rfl, Below.refl _ _⟩
  case round =>
    obtain ⟨k, hk, rfl, rfl, hbw⟩ := hrel
    have hle0 := flsum_take_le fl k
    by_cases hlt : k < fl.length
    case pos =>
      obtain ⟨ba, oa, ua, rfl, ga, ga1, da, _⟩ := FlsRd.elem (hv.below (Nat.le_refl _) hbw) (List.getElem?_eq_getElem hlt)
      obtain ⟨Xa, xa, rfl, xb, _, _⟩ := Rd.open_ da
      have HFT := Lib.hid (flsum_take (List.getElem?_eq_getElem hlt))
      have hle := flsum_take_le fl (k + 1)
      rw [HFT.out] at hle
      generalize fl[k].1 = nm at *
      generalize fl[k].2 = data at *
      generalize flsum (fl.take k) = S at *
      have kF := box_cell wr #[.string (strB nm), .slice Xa data.length xa] 63 0 rfl
      have kG := box_cell wr #[.string (strB nm), .slice Xa data.length xa] 63 1 rfl
      go_wp2_with fail
      go_roundw
      case rel => exact ⟨k + 1, by omega, by go_num, by rw [HFT.out]; go_num, hbw.trans ((Below.of_alloc _).mono hbw.size)⟩
      case measure => simp [intOf]; omega
    case neg =>
    obtain rfl : k = fl.length := by omega
    have HT := Lib.hid (show flsum (fl.take fl.length) = flsum fl by rw [List.take_length])
    have hres : decide ((flsum (fl.take fl.length) : Int) + fl.length ≤ 4000) = res := by rw [HT.out]; exact HR.out
    generalize flsum (fl.take fl.length) = S at *
    go_wp2_with fail
    go_ret
    exact ⟨rfl, hbw⟩
set_option maxHeartbeats 1000000 in
theorem nilR (s : ByteArray) (w : World) : Calls Tryz.prog 22 #[.pointer none, .string s] w fun e w' => e = .returned (.tuple #[.slice none 0 0, .bool false]) ∧ w = w' := by
  go_enter Tryz.func22, Tryz.ntmps22
  go_wp2_with fail
  go_ret2
  exact ⟨rfl, rfl⟩
set_option maxHeartbeats 1000000 in
theorem nilV (w : World) : Calls Tryz.prog 16 #[.pointer none] w fun e w' => e = .returned (.slice none 0 0) ∧ w = w' := by
  go_enter Tryz.func16, Tryz.ntmps16
  go_wp2_with fail
  go_ret
  exact ⟨rfl, rfl⟩
/-- the names that are not among some -/
def unusedL (used : List (List UInt8)) (fl : FL) : List (List UInt8) := (fl.map (·.1)).filter fun x => !(decide (x = fileN) || decide (x ∈ used))
theorem unused_snoc {used : List (List UInt8)} {fl : FL} {k : Nat} {q : List UInt8 × List UInt8} (h : fl[k]? = some q) : unusedL used (fl.take (k + 1)) = unusedL used (fl.take k) ++ (if q.1 = fileN ∨ q.1 ∈ used then [] else [q.1]) := by
  obtain ⟨hk, e⟩ := List.getElem?_eq_some_iff.1 h
  unfold unusedL
  rw [List.take_succ_eq_append_getElem hk, e, List.map_append, List.filter_append]
  congr 1
  by_cases hc : q.1 = fileN ∨ q.1 ∈ used
  · have : (decide (q.1 = fileN) || decide (q.1 ∈ used)) = true := by rcases hc with h | h <;> simp [h]
    rw [if_pos hc, List.map_cons, List.map_nil, List.filter_cons_of_neg (by rw [this]; simp)]; rfl
  · have : (decide (q.1 = fileN) || decide (q.1 ∈ used)) = false := by rw [Bool.or_eq_false_iff]; exact ⟨decide_eq_false fun h => hc (.inl h), decide_eq_false fun h => hc (.inr h)⟩
    rw [if_neg hc, List.map_cons, List.map_nil, List.filter_cons_of_pos (by rw [this]; rfl)]; rfl
theorem fileL : (strB fileN).toList = [77, 65, 78, 73, 70, 69, 83, 84] := by rw [ByteArray.toList_eq]; rfl
theorem unused_len (used : List (List UInt8)) (fl : FL) (k : Nat) : (unusedL used (fl.take k)).length ≤ k := by
  unfold unusedL
  refine Nat.le_trans (List.length_filter_le _ _) ?_
  rw [List.length_map, List.length_take]; omega
theorem ba_getD (l : List (List UInt8)) (j : Nat) (h : j < l.length) : ((l.map strB).getD j ByteArray.empty) = strB l[j] := by
  rw [List.getD_eq_getElem?_getD, List.getElem?_map, List.getElem?_eq_getElem h]; rfl
theorem strB_mem (l : List (List UInt8)) (x : List UInt8) : Lib.containsS (l.map strB) (strB x) = decide (x ∈ l) := by
  by_cases h : x ∈ l
  · rw [decide_eq_true h, Lib.containsS_iff]
    exact List.mem_map.2 ⟨x, h, rfl⟩
  · rw [decide_eq_false h, Bool.eq_false_iff]
    intro hc
    rw [Lib.containsS_iff] at hc
    obtain ⟨y, hy, e⟩ := List.mem_map.1 hc
    exact h (strB_inj.1 e ▸ hy)
theorem contains_any (F : Nat → Prop) (A : Option Addr) (c : Nat) (l : List (List UInt8)) (x : List UInt8) (w : World) (h : Rd w F 1 (.slice A l.length c) l.length (sv l)) (hl : l.length ≤ 1000001) :
    Calls Tryz.prog 44 #[.slice A l.length c, .string (strB x)] w fun e w' => e = .returned (.bool (decide (x ∈ l))) ∧ w = w' := by
  by_cases h0 : l.length = 0
  · have : l = [] := List.eq_nil_of_length_eq_zero h0
    subst this
    exact (Tryz.slices_Contains_string_empty A c (strB x) w).mono fun e w' ⟨h1, h2⟩ => ⟨h1, h2.symm⟩
  · obtain ⟨b, off, rfl, _, hc⟩ := Rd.plain h (by omega) (by omega)
    have := Tryz.slices_Contains_string b off l.length c (l.map strB) (strB x) w (by simp) (by omega) (fun j hj => by
      rw [List.length_map] at hj
      rw [ba_getD l j hj]
      exact hc j _ (by rw [sv, List.getElem?_map, List.getElem?_eq_getElem hj]; rfl))
    rw [List.take_of_length_le (by simp), strB_mem] at this
    exact this.mono fun e w' ⟨h1, h2⟩ => ⟨h1, h2.symm⟩
/-- a list of names of the call's own -/
def StrOut (l : List (List UInt8)) (w0 : World) (e : Ending) (w : World) : Prop := ∃ A c, e = .returned (.slice A l.length c) ∧ OwnS w w0.heap.size (.slice A l.length c) l ∧ Below w0.heap.size w0 w
set_option maxRecDepth 100000 in
set_option maxHeartbeats 2000000 in
theorem munused_nil (F : Nat → Prop) (As : Option Addr) (cs : Nat) (m : Man) (w : World) (h : Rd w F 1 (.slice As m.segs.length cs) m.segs.length (sv m.segs)) (hF : ∀ b, F b → b < w.heap.size) (hl : m.segs.length ≤ 1099511627776) :
    Calls Tryz.prog 20 #[.pointer none, manV As cs m] w fun e w' => e = .returned (.slice none 0 0) ∧ Below w.heap.size w w' := by
  obtain ⟨W, hW⟩ : ∃ W, W = w.alloc (.cells (rowM As cs m) 25) := ⟨_, rfl⟩
  have hbW : Below w.heap.size w W := by rw [hW]; exact Below.of_alloc _
  have hsW : W.heap.size = w.heap.size + 1 := by rw [hW]; simp
  have hPW : W.heap[w.heap.size]? = some (.cells (rowM As cs m) 25 (0, 0)) := by rw [hW]; exact heap_alloc_new w _
  have c0 : W.cell? ⟨w.heap.size, 0, none⟩ = some (.string (strB m.base)) := cell_of_row _ _ 0 _ _ _ hPW
  have c1 : W.cell? ⟨w.heap.size, 1, none⟩ = some (.slice As m.segs.length cs) := cell_of_row _ _ 1 _ _ _ hPW
  have c2 : W.cell? ⟨w.heap.size, 2, none⟩ = some (.string (strB m.log)) := cell_of_row _ _ 2 _ _ _ hPW
  have c3 : W.cell? ⟨w.heap.size, 3, none⟩ = some (.int .i64 m.tx) := cell_of_row _ _ 3 _ _ _ hPW
  have c4 : W.cell? ⟨w.heap.size, 4, none⟩ = some (.int .i64 m.nx) := cell_of_row _ _ 4 _ _ _ hPW
  have CN := Lib.hid (names_big F _ m W (h.keep fun b hb => hbW.block b (hF b hb)) (fun b hb => by have := hF b hb; omega) hl As cs rfl)
  rw [hW] at c0 c1 c2 c3 c4
  have HW := Lib.hid hW
  clear hW h hF
  go_enter Tryz.func20, Tryz.ntmps20
  go_wp2_with fail
  rw [← HW.out]
  (with_reducible refine CN.out.mono ?_)
  rintro e1 w1 ⟨A1, c1', rfl, _, _, _, hO1, hb1⟩
  go_wp2_with fail
  (with_reducible refine (nilV w1).mono ?_)
  rintro e2 w2 ⟨rfl, rfl⟩
  go_wp2_with fail
  go_loopw [5, 14] (fun out i wr => out = .slice none 0 0 ∧ i = .int .i64 0 ∧ wr = w1) (fun _ _ _ => 0)
  case atStart => exact ⟨rfl, rfl, rfl⟩
  case round =>
    obtain ⟨rfl, rfl, rfl⟩ := hrel
    go_wp2_with fail
    go_ret
    exact ⟨rfl, hbW.trans (hb1.mono (by omega))⟩
set_option maxRecDepth 100000 in
set_option maxHeartbeats 4000000 in
theorem munused_any (B Z D : Nat) (P : Option Nat) (fm : FM) (os : List DOp) (F : Nat → Prop) (As : Option Addr) (cs : Nat) (m : Man) (fl : FL) (w : World) (hB : B ≤ w.heap.size) (hD : DiskAt B Z w D P fm os) (hZ : Z ≤ 1099511627776) (hI : IsL (viewF fm os) fl) (hfl : fl.length ≤ 1048576)
    (h : Rd w F 1 (.slice As m.segs.length cs) m.segs.length (sv m.segs)) (hF : ∀ b, F b → b < w.heap.size) (hl : m.segs.length ≤ 900000) :
    Calls Tryz.prog 20 #[.pointer (some ⟨D, 0, none⟩), manV As cs m] w (StrOut (unusedL (nmsF m) fl) w) := by
  obtain ⟨W, hW⟩ : ∃ W, W = w.alloc (.cells (rowM As cs m) 25) := ⟨_, rfl⟩
  have hbW : Below w.heap.size w W := by rw [hW]; exact Below.of_alloc _
  have hsW : W.heap.size = w.heap.size + 1 := by rw [hW]; simp
  have hPW : W.heap[w.heap.size]? = some (.cells (rowM As cs m) 25 (0, 0)) := by rw [hW]; exact heap_alloc_new w _
  have c0 : W.cell? ⟨w.heap.size, 0, none⟩ = some (.string (strB m.base)) := cell_of_row _ _ 0 _ _ _ hPW
  have c1 : W.cell? ⟨w.heap.size, 1, none⟩ = some (.slice As m.segs.length cs) := cell_of_row _ _ 1 _ _ _ hPW
  have c2 : W.cell? ⟨w.heap.size, 2, none⟩ = some (.string (strB m.log)) := cell_of_row _ _ 2 _ _ _ hPW
  have c3 : W.cell? ⟨w.heap.size, 3, none⟩ = some (.int .i64 m.tx) := cell_of_row _ _ 3 _ _ _ hPW
  have c4 : W.cell? ⟨w.heap.size, 4, none⟩ = some (.int .i64 m.nx) := cell_of_row _ _ 4 _ _ _ hPW
  have CN := Lib.hid (names_any F _ m W (h.keep fun b hb => hbW.block b (hF b hb)) (fun b hb => by have := hF b hb; omega) (by omega) As cs rfl)
  have hnl : (nmsF m).length ≤ 900002 := by unfold nmsF; simp only [List.length_append, List.length_singleton]; split <;> simp <;> omega
  have hDW := hD.below hB hbW
  rw [hW] at c0 c1 c2 c3 c4
  have HW := Lib.hid hW
  obtain ⟨i0, hi, hz0, hz1, hz2⟩ := info_parts infoSt
  clear hW h hF hD
  generalize nmsF m = used at *
  go_enter Tryz.func20, Tryz.ntmps20
  go_wp2_with fail
  rw [← HW.out]
  (with_reducible refine CN.out.mono ?_)
  rintro e1 w1 ⟨A1, k1, rfl, hA1, hk1, hm1, hO1, hb1⟩
  unfold maxLen at hm1
  have hs1 := hb1.size
  have hD1 := hDW.below (by omega) hb1
  have CV := Lib.hid (dviewl_any B Z D fm os w1 (by omega) hD1.rd hZ)
  have hB1 : Below w.heap.size w w1 := hbW.trans (hb1.mono (by omega))
  clear CN c0 c1 c2 c3 c4 hDW hb1
  go_wp2_with fail
  (with_reducible refine CV.out.mono ?_)
  rintro e2 w2 ⟨vf, fl', rfl, hfo, hil, hb2⟩
  obtain rfl := hil.unique hI
  have hs2 := hb2.size
  have hB2 : Below w.heap.size w w2 := hB1.trans (hb2.mono (by omega))
  have hfr : FlsRd w2.heap.size w2 vf fl' := by
    obtain ⟨ps, hp1, hp2, hp3⟩ := hfo.rd
    exact ⟨ps, hp1, hp2.wide (fun b hb => by rcases hb with hb | ⟨cs, hb⟩; exact .inl (by omega); exact .inr ⟨cs, hb⟩), fun p hp => (hp3 p hp).wide (fun b hb => by rcases hb with hb | ⟨cs, fr, hb⟩; exact .inl (by omega); exact .inr ⟨cs, fr, hb⟩)⟩
  have hOu := hO1.below hb2
  clear hfo CV hO1 hb2
  obtain ⟨Af, cf, rfl, p1, p2, p3⟩ := hfr.open_
  have HP3 := Lib.hid p3
  unfold maxLen at p2
  clear p3
  obtain ⟨base, hbase⟩ : ∃ base, base = w2.heap.size := ⟨_, rfl⟩
  have hru : Rd w2 (· < base) 1 (.slice A1 used.length k1) used.length (sv used) := (Rd.of_own hOu).wide fun b hb => by omega
  clear hOu
  go_wp2_with fail
  go_loopw [5, 14] (fun out i wr => ∃ (k : Nat) (L : List (List UInt8)) (u : Value), k ≤ fl'.length ∧ i = .int .i64 (k : Int) ∧ out = u ∧ L = unusedL used (fl'.take k) ∧ OwnS wr base u L ∧ Below base w2 wr) (fun _ i _ => fl'.length - (RowKit.intOf i).toNat)
  case atStart => exact ⟨0, [], _, Nat.zero_le _, rfl, rfl, rfl, OwnS.nil _ _, Below.refl _ _⟩
  case round =>
    obtain ⟨k, L, u, hk, rfl, hu, hL, hOr, hbr⟩ := hrel
    replace hu := hu.symm
    subst hu
    have hsr := hbr.size
    have hLk : L.length ≤ k := by rw [hL]; exact unused_len _ _ _
    have HL := Lib.hid hL
    clear hL
    by_cases hlt : k < fl'.length
    case pos =>
      obtain ⟨ba, oa, ua, rfl, ga, ga1, da, _⟩ := FlsRd.elem (hfr.below (Nat.le_refl _) (hbr.mono (by omega))) (List.getElem?_eq_getElem hlt)
      obtain ⟨Xa, xa, rfl, xb, _, _⟩ := Rd.open_ da
      have HUS := Lib.hid (unused_snoc (used := used) (List.getElem?_eq_getElem hlt))
      generalize fl'[k].1 = nm at *
      generalize fl'[k].2 = data at *
      obtain ⟨X, hX⟩ : ∃ X, X = wr.alloc (.cells #[.string (strB nm), .slice Xa data.length xa] 63) := ⟨_, rfl⟩
      have hbX : Below wr.heap.size wr X := by rw [hX]; exact Below.of_alloc _
      have kF : X.cell? ⟨wr.heap.size, 0, none⟩ = some (.string (strB nm)) := by rw [hX]; exact box_cell wr #[.string (strB nm), .slice Xa data.length xa] 63 0 rfl
      have kF' := kF
      rw [hX] at kF'
      have HX := Lib.hid hX
      by_cases hfn : nm = fileN
      case pos =>
        have hadd : unusedL used (fl'.take (k + 1)) = L := by rw [HUS.out, if_pos (.inl hfn), List.append_nil, HL.out]
        have HADD := Lib.hid hadd
        have q1 : ((strB nm).toList != (strB fileN).toList) = false := str_beq hfn
        have q2 : (strB nm).toList = (strB fileN).toList := by rw [hfn]
        rw [fileL] at q1 q2
        clear hX hadd hfn
        go_wp2_with fail
        go_roundw
        case rel => exact ⟨k + 1, L, _, by omega, by go_num, rfl, HADD.out.symm, hOr.below (HX.out ▸ hbX), hbr.trans ((HX.out ▸ hbX).mono (by omega))⟩
        case measure => simp [RowKit.intOf]; omega
      case neg =>
        have q1 : ((strB nm).toList != (strB fileN).toList) = true := str_bne hfn
        have q2 := str_nel hfn
        have q3 := str_ne hfn
        rw [fileL] at q1 q2 q3
        have CC := Lib.hid (contains_any (· < base) A1 k1 used nm X (hru.keep fun b hb => (hbX.block b (by omega)).trans (hbr.block b hb)) (by omega))
        have hnot : ∀ (x : Bool) (w : World), (Op.unary .not (.bool x)).run Tryz.prog w = .ok (.bool (!x)) w := fun _ _ => rfl
        clear hX
        go_wp2_with fail
        rw [← HX.out]
        (with_reducible refine CC.out.mono ?_)
        rintro e3 w3 ⟨rfl, rfl⟩
        by_cases hmem : nm ∈ used
        case pos =>
          have HADD := Lib.hid (show unusedL used (fl'.take (k + 1)) = L by rw [HUS.out, if_pos (.inr hmem), List.append_nil, HL.out])
          rw [decide_eq_true hmem]
          go_wp2_with fail
          go_roundw
          case rel => exact ⟨k + 1, L, _, by omega, by go_num, rfl, HADD.out.symm, hOr.below hbX, hbr.trans (hbX.mono (by omega))⟩
          case measure => simp [RowKit.intOf]; omega
        case neg =>
          have HADD := Lib.hid (show unusedL used (fl'.take (k + 1)) = L ++ [nm] by rw [HUS.out, if_neg (by rintro (h | h); exact hfn h; exact hmem h), HL.out])
          rw [decide_eq_false hmem]
          have hOX : OwnS X base u L := hOr.below hbX
          have hnew := rd_str X nm
          have hOb : OwnS (X.alloc (.cells #[.string (strB nm)] 9)) base u L := World.ownsRow.alloc hOX _
          have hsX := hbX.size
          go_wp2_with (at_builtin; refine wpList_append_app _ rfl (.tmp 28) (.tmp 31) 23 rfl base 9 i0 _ 1 16 Tryz.underlying23 hi hz0 hz1 hz2 rfl (by omega) _ L.length (sv L) rfl (.inl hOb) _ _ 1 (sv [nm]) rfl hnew (sv_one _) (by unfold maxLen; omega) (by omega) (by simp; omega) ?_; intro v6 w6 _ h6 hg6 hb6 ha6; have h6 := h6 (.inr hOb); have hO6 : OwnS w6 base v6 (L ++ [nm]) := owns_cast (a := L) (b := [nm]) h6; have hb26 : Below base w2 w6 := hbr.trans ((hbX.mono (by omega)).trans (((Below.of_alloc _).mono (by omega)).trans hb6)); clear h6 hg6 ha6 hnew hOb)
          go_roundw
          case rel => exact ⟨k + 1, L ++ [nm], _, by omega, by go_num, rfl, HADD.out.symm, hO6, hb26⟩
          case measure => simp [RowKit.intOf]; omega
    case neg =>
    obtain rfl : k = fl'.length := by omega
    rw [List.take_length] at HL
    go_wp2_with fail
    go_ret
    obtain ⟨A6, k6, rfl, _, _, _⟩ := hOr.open_
    rw [← HL.out]
    exact ⟨A6, k6, rfl, hOr.lower (by omega), hB2.trans (hbr.mono (by omega))⟩
end Go.Proofs.YthjephhojngiaaaGreatDoor
