/-
  Manifests: the reference's Unused.
-/
import Derived.Test.YthjephhojngiaaaGreatDoorManX
namespace Go.Proofs.YthjephhojngiaaaGreatDoor
open Go.RowKit Go.Lib Go.IntWalk

def unusedR (m : Man) (fl : FL) : List (List UInt8) := (fl.map (·.1)).filter fun x => !decide (x = fileN ∨ x = m.base ∨ x = m.log ∨ x ∈ m.segs)
theorem unusedR_snoc {m : Man} {fl : FL} {k : Nat} {q : List UInt8 × List UInt8} (h : fl[k]? = some q) : unusedR m (fl.take (k + 1)) = unusedR m (fl.take k) ++ (if q.1 = fileN ∨ q.1 = m.base ∨ q.1 = m.log ∨ q.1 ∈ m.segs then [] else [q.1]) := by
  obtain ⟨hk, e⟩ := List.getElem?_eq_some_iff.1 h
  unfold unusedR
  rw [List.take_succ_eq_append_getElem hk, e, List.map_append, List.filter_append]
  congr 1
  by_cases hc : q.1 = fileN ∨ q.1 = m.base ∨ q.1 = m.log ∨ q.1 ∈ m.segs
  · rw [if_pos hc, List.map_cons, List.map_nil, List.filter_cons_of_neg (by rw [decide_eq_true hc]; simp)]; rfl
  · rw [if_neg hc, List.map_cons, List.map_nil, List.filter_cons_of_pos (by rw [decide_eq_false hc]; rfl)]; rfl
theorem unusedR_len (m : Man) (fl : FL) (k : Nat) : (unusedR m (fl.take k)).length ≤ k := by
  unfold unusedR
  refine Nat.le_trans (List.length_filter_le _ _) ?_
  rw [List.length_map, List.length_take]; omega
/-- no file has the empty name: the two agree -/
theorem unused_same {m : Man} {fl : FL} (h : ∀ p ∈ fl, p.1 ≠ []) : unusedR m fl = unusedL (nmsF m) fl := by
  unfold unusedR unusedL
  apply List.filter_congr
  intro x hx
  obtain ⟨p, hp, rfl⟩ := List.mem_map.1 hx
  have hne := h p hp
  congr 1
  rw [← Bool.decide_or]
  apply decide_eq_decide.2
  unfold nmsF
  simp only [List.mem_append, List.mem_singleton]
  by_cases hb : m.base = []
  · rw [if_pos hb, hb]
    constructor
    · rintro (h | h | h | h)
      · exact .inl h
      · exact absurd h hne
      · exact .inr (.inr h)
      · exact .inr (.inl (.inr h))
    · rintro (h | (h | h) | h)
      · exact .inl h
      · cases h
      · exact .inr (.inr (.inr h))
      · exact .inr (.inr (.inl h))
  · rw [if_neg hb, List.mem_singleton]
    constructor
    · rintro (h | h | h | h)
      · exact .inl h
      · exact .inr (.inl (.inl h))
      · exact .inr (.inr h)
      · exact .inr (.inl (.inr h))
    · rintro (h | (h | h) | h)
      · exact .inl h
      · exact .inr (.inl h)
      · exact .inr (.inr (.inr h))
      · exact .inr (.inr (.inl h))
set_option maxRecDepth 100000 in
set_option maxHeartbeats 8000000 in
theorem runused_any (B Z : Nat) (lv ov : Value) (fl0 : FL) (os : List DOp) (F : Nat → Prop) (As : Option Addr) (cs : Nat) (m : Man) (w : World) (hB : B ≤ w.heap.size) (hv : FlsRd B w lv fl0) (ho : DosRd B w ov os) (hz : RSz Z fl0 os) (hZ : Z ≤ 1048576)
    (h : Rd w F 1 (.slice As m.segs.length cs) m.segs.length (sv m.segs)) (hF : ∀ b, F b → b < w.heap.size) (hl : m.segs.length ≤ 900000) (hfl : (viewL fl0 os).length ≤ 1048576) :
    Calls Tryz.prog 21 #[.agg #[lv, ov], manV As cs m] w (StrOut (unusedR m (viewL fl0 os)) w) := by
  obtain ⟨A, c, rfl, a1, a2, a3⟩ := hv.open_
  obtain ⟨Ao, co, rfl, b1, b2, b3⟩ := ho.open_
  have HA3 := Lib.hid a3
  have HB3 := Lib.hid b3
  clear a3 b3
  obtain ⟨W, hW⟩ : ∃ W, W = (w.alloc (.cells #[.slice A fl0.length c, .slice Ao os.length co] 35)).alloc (.cells (rowM As cs m) 25) := ⟨_, rfl⟩
  have hbW : Below w.heap.size w W := by rw [hW]; exact (Below.of_alloc _).trans ((Below.of_alloc _).mono (by simp))
  have hsW : W.heap.size = w.heap.size + 2 := by rw [hW]; simp
  have hDW : W.heap[w.heap.size]? = some (.cells #[.slice A fl0.length c, .slice Ao os.length co] 35 (0, 0)) := by rw [hW, Below.heap_alloc _ _ _ (by simp)]; exact heap_alloc_new w _
  have hPW : W.heap[w.heap.size + 1]? = some (.cells (rowM As cs m) 25 (0, 0)) := by rw [hW]; exact heap_alloc2_new w _ _
  have k0 : W.cell? ⟨w.heap.size, 0, none⟩ = some (.slice A fl0.length c) := cell_of_row _ _ 0 _ _ _ hDW
  have k1 : W.cell? ⟨w.heap.size, 1, none⟩ = some (.slice Ao os.length co) := cell_of_row _ _ 1 _ _ _ hDW
  have CV := Lib.hid (rview_any B Z _ _ fl0 os W (by omega) (hv.below hB hbW) (ho.below hB hbW) hz (by omega))
  rw [hW] at k0 k1
  have HW := Lib.hid hW
  have hrW : Rd W F 1 (.slice As m.segs.length cs) m.segs.length (sv m.segs) := h.keep fun b hb => hbW.block b (hF b hb)
  have HF := Lib.hid hF
  obtain ⟨_, _, hce, x1, x2, x3⟩ := Rd.open_ h
  have HX3 := Lib.hid x3
  unfold maxLen at x2
  obtain ⟨i0, hi, hz0, hz1, hz2⟩ := info_parts infoSt
  clear hW h hF x3 hce x1 hv ho
  generalize viewL fl0 os = fl at *
  generalize hH : w.heap.size = H at *
  have HH := Lib.hid hH
  clear hH
  go_enter Tryz.func21, Tryz.ntmps21
  go_wp2_with fail
  rw [← HW.out]
  (with_reducible refine CV.out.mono ?_)
  rintro e1 w1 ⟨vf, rfl, hfo, hb1⟩
  rw [HH.out]
  have hs1 := hb1.size
  have hP1 := (hb1.block (H + 1) (by omega)).trans hPW
  have hr1 : Rd w1 F 1 (.slice As m.segs.length cs) m.segs.length (sv m.segs) := hrW.keep fun b hb => hb1.block b (by have := HF.out b hb; omega)
  have hfr : FlsRd w1.heap.size w1 vf fl := by
    obtain ⟨ps, hp1, hp2, hp3⟩ := hfo
    exact ⟨ps, hp1, hp2.wide (fun b hb => by rcases hb with hb | ⟨cs, hb⟩; exact .inl (by omega); exact .inr ⟨cs, hb⟩), fun p hp => (hp3 p hp).wide (fun b hb => by rcases hb with hb | ⟨cs, fr, hb⟩; exact .inl (by omega); exact .inr ⟨cs, fr, hb⟩)⟩
  have hB1 : Below H w w1 := hbW.trans (hb1.mono (by omega))
  clear CV k0 k1 hDW hPW hfo hrW hb1 hbW
  obtain ⟨Af, cf, rfl, p1, p2, p3⟩ := hfr.open_
  have HP3 := Lib.hid p3
  unfold maxLen at p2
  clear p3
  obtain ⟨base, hbase⟩ : ∃ base, base = w1.heap.size := ⟨_, rfl⟩
  go_wp2_with fail
  go_loopw [5, 14] (fun out i wr => ∃ (k : Nat) (L : List (List UInt8)) (u : Value), k ≤ fl.length ∧ i = .int .i64 (k : Int) ∧ out = u ∧ L = unusedR m (fl.take k) ∧ OwnS wr base u L ∧ Below base w1 wr) (fun _ i _ => fl.length - (RowKit.intOf i).toNat)
  case atStart => exact ⟨0, [], _, Nat.zero_le _, rfl, rfl, rfl, OwnS.nil _ _, Below.refl _ _⟩
  case round =>
    obtain ⟨k, L, u, hk, rfl, hu, hL, hOr, hbr⟩ := hrel
    replace hu := hu.symm
    subst hu
    have hsr := hbr.size
    have hLk : L.length ≤ k := by rw [hL]; exact unusedR_len _ _ _
    have HL := Lib.hid hL
    clear hL
    by_cases hlt : k < fl.length
    case pos =>
      obtain ⟨ba, oa, ua, rfl, ga, ga1, da, _⟩ := FlsRd.elem (hfr.below (Nat.le_refl _) (hbr.mono (by omega))) (List.getElem?_eq_getElem hlt)
      obtain ⟨Xa, xa, rfl, xb, _, _⟩ := Rd.open_ da
      have HUS := Lib.hid (unusedR_snoc (m := m) (List.getElem?_eq_getElem hlt))
      generalize fl[k].1 = nm at *
      generalize fl[k].2 = data at *
      obtain ⟨X, hX⟩ : ∃ X, X = wr.alloc (.cells #[.string (strB nm), .slice Xa data.length xa] 63) := ⟨_, rfl⟩
      have hbX : Below wr.heap.size wr X := by rw [hX]; exact Below.of_alloc _
      have kF : X.cell? ⟨wr.heap.size, 0, none⟩ = some (.string (strB nm)) := by rw [hX]; exact box_cell wr #[.string (strB nm), .slice Xa data.length xa] 63 0 rfl
      have hPX := (hbX.block (H + 1) (by omega)).trans ((hbr.block (H + 1) (by omega)).trans hP1)
      have hrS : Rd X F 1 (.slice As m.segs.length cs) m.segs.length (sv m.segs) := hr1.keep fun b hb => (hbX.block b (by have := HF.out b hb; omega)).trans (hbr.block b (by have := HF.out b hb; omega))
      have c0 : X.cell? ⟨H + 1, 0, none⟩ = some (.string (strB m.base)) := cell_of_row _ _ 0 _ _ _ hPX
      have c1 : X.cell? ⟨H + 1, 1, none⟩ = some (.slice As m.segs.length cs) := cell_of_row _ _ 1 _ _ _ hPX
      have c2 : X.cell? ⟨H + 1, 2, none⟩ = some (.string (strB m.log)) := cell_of_row _ _ 2 _ _ _ hPX
      have c3 : X.cell? ⟨H + 1, 3, none⟩ = some (.int .i64 m.tx) := cell_of_row _ _ 3 _ _ _ hPX
      have c4 : X.cell? ⟨H + 1, 4, none⟩ = some (.int .i64 m.nx) := cell_of_row _ _ 4 _ _ _ hPX
      have kF' := kF
      have c0' := c0
      have c1' := c1
      have c2' := c2
      rw [hX] at kF' c0' c1' c2'
      have HX := Lib.hid hX
      have hnot : ∀ (x : Bool) (w : World), (Op.unary .not (.bool x)).run Tryz.prog w = .ok (.bool (!x)) w := fun _ _ => rfl
      clear hX
      by_cases hfn : nm = fileN
      case pos =>
        have HUSED := Lib.hid (show nm = fileN ∨ nm = m.base ∨ nm = m.log ∨ nm ∈ m.segs from .inl hfn)
        have q1 : ((strB nm).toList == (strB fileN).toList) = true := by rw [hfn]; simp
        have q2 : (strB nm).toList = (strB fileN).toList := by rw [hfn]
        rw [fileL] at q1 q2
        clear hfn
        go_wp2_with fail
        rw [← HX.out]
        clear kF' c0' c1' c2' q1 q2
        go_loopw [8, 38] (fun u8 i w' => ∃ j : Nat, j ≤ m.segs.length ∧ i = .int .i64 (j : Int) ∧ u8 = .bool (true) ∧ X = w') (fun _ i _ => m.segs.length - (RowKit.intOf i).toNat)
        case atStart => exact ⟨0, Nat.zero_le _, rfl, rfl, rfl⟩
        case round =>
          obtain ⟨j, hj, rfl, hu8, hwX⟩ := hrel
          subst hwX
          by_cases hlj : j < m.segs.length
          case pos =>
            have hgb : m.segs[j]? = some m.segs[j] := List.getElem?_eq_getElem hlj
            obtain ⟨b2, o2, rfl, _, y0⟩ := RdS.elem hrS hgb
            have HGB := Lib.hid (List.take_succ_eq_append_getElem hlj)
            clear hgb
            generalize m.segs[j] = y at *
            subst hu8
            go_wp2_with fail
            go_roundw
            case rel => exact ⟨j + 1, by omega, by go_num, rfl, by first | trivial | rfl⟩
            case measure => simp [RowKit.intOf]; omega
          case neg =>
          obtain rfl : j = m.segs.length := by omega
          subst hu8
          have HADD := Lib.hid (show unusedR m (fl.take (k + 1)) = L by rw [HUS.out, if_pos (HUSED.out), List.append_nil, HL.out])
          go_wp2_with fail
          go_roundw
          case rel => exact ⟨k + 1, L, _, by omega, by go_num, rfl, HADD.out.symm, hOr.below hbX, hbr.trans (hbX.mono (by omega))⟩
          case measure => simp [RowKit.intOf]; omega
      case neg =>
      have q1 := str_ne hfn
      have q2 := str_nel hfn
      rw [fileL] at q1 q2
      by_cases hba : nm = m.base
      case pos =>
        have HUSED := Lib.hid (show nm = fileN ∨ nm = m.base ∨ nm = m.log ∨ nm ∈ m.segs from .inr (.inl hba))
        have q3 : ((strB nm).toList == (strB m.base).toList) = true := by rw [hba]; simp
        have q4 : (strB nm).toList = (strB m.base).toList := by rw [hba]
        have r1 := q1; have r2 := q2
        rw [hba] at r1 r2
        clear hba hfn
        go_wp2_with fail
        rw [← HX.out]
        clear kF' c0' c1' c2' q1 q2 q3 q4 r1 r2
        go_loopw [8, 38] (fun u8 i w' => ∃ j : Nat, j ≤ m.segs.length ∧ i = .int .i64 (j : Int) ∧ u8 = .bool (true) ∧ X = w') (fun _ i _ => m.segs.length - (RowKit.intOf i).toNat)
        case atStart => exact ⟨0, Nat.zero_le _, rfl, rfl, rfl⟩
        case round =>
          obtain ⟨j, hj, rfl, hu8, hwX⟩ := hrel
          subst hwX
          by_cases hlj : j < m.segs.length
          case pos =>
            have hgb : m.segs[j]? = some m.segs[j] := List.getElem?_eq_getElem hlj
            obtain ⟨b2, o2, rfl, _, y0⟩ := RdS.elem hrS hgb
            have HGB := Lib.hid (List.take_succ_eq_append_getElem hlj)
            clear hgb
            generalize m.segs[j] = y at *
            subst hu8
            go_wp2_with fail
            go_roundw
            case rel => exact ⟨j + 1, by omega, by go_num, rfl, by first | trivial | rfl⟩
            case measure => simp [RowKit.intOf]; omega
          case neg =>
          obtain rfl : j = m.segs.length := by omega
          subst hu8
          have HADD := Lib.hid (show unusedR m (fl.take (k + 1)) = L by rw [HUS.out, if_pos (HUSED.out), List.append_nil, HL.out])
          go_wp2_with fail
          go_roundw
          case rel => exact ⟨k + 1, L, _, by omega, by go_num, rfl, HADD.out.symm, hOr.below hbX, hbr.trans (hbX.mono (by omega))⟩
          case measure => simp [RowKit.intOf]; omega
      case neg =>
      have q3 := str_ne hba
      have q4 := str_nel hba
      by_cases hlo : nm = m.log
      case pos =>
        have HUSED := Lib.hid (show nm = fileN ∨ nm = m.base ∨ nm = m.log ∨ nm ∈ m.segs from .inr (.inr (.inl hlo)))
        have q5 : ((strB nm).toList == (strB m.log).toList) = true := by rw [hlo]; simp
        have q6 : (strB nm).toList = (strB m.log).toList := by rw [hlo]
        have r1 := q1; have r2 := q2; have r3 := q3; have r4 := q4
        rw [hlo] at r1 r2 r3 r4
        clear hba hfn hlo
        go_wp2_with fail
        rw [← HX.out]
        clear kF' c0' c1' c2' q1 q2 q3 q4 q5 q6 r1 r2 r3 r4
        go_loopw [8, 38] (fun u8 i w' => ∃ j : Nat, j ≤ m.segs.length ∧ i = .int .i64 (j : Int) ∧ u8 = .bool (true) ∧ X = w') (fun _ i _ => m.segs.length - (RowKit.intOf i).toNat)
        case atStart => exact ⟨0, Nat.zero_le _, rfl, rfl, rfl⟩
        case round =>
          obtain ⟨j, hj, rfl, hu8, hwX⟩ := hrel
          subst hwX
          by_cases hlj : j < m.segs.length
          case pos =>
            have hgb : m.segs[j]? = some m.segs[j] := List.getElem?_eq_getElem hlj
            obtain ⟨b2, o2, rfl, _, y0⟩ := RdS.elem hrS hgb
            have HGB := Lib.hid (List.take_succ_eq_append_getElem hlj)
            clear hgb
            generalize m.segs[j] = y at *
            subst hu8
            go_wp2_with fail
            go_roundw
            case rel => exact ⟨j + 1, by omega, by go_num, rfl, by first | trivial | rfl⟩
            case measure => simp [RowKit.intOf]; omega
          case neg =>
          obtain rfl : j = m.segs.length := by omega
          subst hu8
          have HADD := Lib.hid (show unusedR m (fl.take (k + 1)) = L by rw [HUS.out, if_pos (HUSED.out), List.append_nil, HL.out])
          go_wp2_with fail
          go_roundw
          case rel => exact ⟨k + 1, L, _, by omega, by go_num, rfl, HADD.out.symm, hOr.below hbX, hbr.trans (hbX.mono (by omega))⟩
          case measure => simp [RowKit.intOf]; omega
      case neg =>
        have HNF := Lib.hid (show nm ≠ fileN ∧ nm ≠ m.base ∧ nm ≠ m.log from ⟨hfn, hba, hlo⟩)
        have q5 := str_ne hlo
        have q6 := str_nel hlo
        clear hba hfn hlo
        go_wp2_with fail
        rw [← HX.out]
        clear kF' c0' c1' c2' q1 q2 q3 q4 q5 q6
        go_loopw [8, 38] (fun u8 i w' => ∃ j : Nat, j ≤ m.segs.length ∧ i = .int .i64 (j : Int) ∧ u8 = .bool (decide (nm ∈ m.segs.take j)) ∧ X = w') (fun _ i _ => m.segs.length - (RowKit.intOf i).toNat)
        case atStart => exact ⟨0, Nat.zero_le _, rfl, by simp, rfl⟩
        case round =>
          obtain ⟨j, hj, rfl, hu8, hwX⟩ := hrel
          subst hwX
          by_cases hlj : j < m.segs.length
          case pos =>
            have hgb : m.segs[j]? = some m.segs[j] := List.getElem?_eq_getElem hlj
            obtain ⟨b2, o2, rfl, _, y0⟩ := RdS.elem hrS hgb
            have HGB := Lib.hid (List.take_succ_eq_append_getElem hlj)
            clear hgb
            generalize m.segs[j] = y at *
            by_cases hin : nm ∈ m.segs.take j
            case pos =>
              have hv8 : decide (nm ∈ m.segs.take (j + 1)) = true := decide_eq_true (by rw [HGB.out]; exact List.mem_append_left _ hin)
              rw [decide_eq_true hin] at hu8
              subst hu8
              have HV8 := Lib.hid hv8
              clear hv8 hin
              go_wp2_with fail
              go_roundw
              case rel => exact ⟨j + 1, by omega, by go_num, by rw [HV8.out], by first | trivial | rfl⟩
              case measure => simp [RowKit.intOf]; omega
            case neg =>
              rw [decide_eq_false hin] at hu8
              subst hu8
              by_cases hxy : nm = y
              case pos =>
                have HV8 := Lib.hid (show decide (nm ∈ m.segs.take (j + 1)) = true from decide_eq_true (by rw [HGB.out, hxy]; simp))
                have q5 : ((strB nm).toList == (strB y).toList) = true := by rw [hxy]; simp
                have q6 : (strB nm).toList = (strB y).toList := by rw [hxy]
                clear hin hxy
                go_wp2_with fail
                go_roundw
                case rel => exact ⟨j + 1, by omega, by go_num, by rw [HV8.out], by first | trivial | rfl⟩
                case measure => simp [RowKit.intOf]; omega
              case neg =>
                have HV8 := Lib.hid (show decide (nm ∈ m.segs.take (j + 1)) = false from decide_eq_false (by rw [HGB.out]; simp; exact ⟨hin, hxy⟩))
                have q5 := str_ne hxy
                have q6 := str_nel hxy
                clear hin hxy
                go_wp2_with fail
                go_roundw
                case rel => exact ⟨j + 1, by omega, by go_num, by rw [HV8.out], by first | trivial | rfl⟩
                case measure => simp [RowKit.intOf]; omega
          case neg =>
          obtain rfl : j = m.segs.length := by omega
          rw [List.take_length] at hu8
          by_cases hmem : nm ∈ m.segs
          case pos =>
            rw [decide_eq_true hmem] at hu8
            subst hu8
            have HADD := Lib.hid (show unusedR m (fl.take (k + 1)) = L by rw [HUS.out, if_pos (.inr (.inr (.inr hmem))), List.append_nil, HL.out])
            go_wp2_with fail
            go_roundw
            case rel => exact ⟨k + 1, L, _, by omega, by go_num, rfl, HADD.out.symm, hOr.below hbX, hbr.trans (hbX.mono (by omega))⟩
            case measure => simp [RowKit.intOf]; omega
          case neg =>
            rw [decide_eq_false hmem] at hu8
            subst hu8
            have HADD := Lib.hid (show unusedR m (fl.take (k + 1)) = L ++ [nm] by rw [HUS.out, if_neg (by rintro (h | h | h | h); exact HNF.out.1 h; exact HNF.out.2.1 h; exact HNF.out.2.2 h; exact hmem h), HL.out])
            have hOX : OwnS X base u L := hOr.below hbX
            have hnew := rd_str X nm
            have hOb : OwnS (X.alloc (.cells #[.string (strB nm)] 9)) base u L := World.ownsRow.alloc hOX _
            have hsX := hbX.size
            go_wp2_with (at_builtin; refine wpList_append_app _ rfl (.tmp 52) (.tmp 55) 23 rfl base 9 i0 _ 1 16 Tryz.underlying23 hi hz0 hz1 hz2 rfl (by omega) _ L.length (sv L) rfl (.inl hOb) _ _ 1 (sv [nm]) rfl hnew (sv_one _) (by unfold maxLen; omega) (by omega) (by simp; omega) ?_; intro v6 w6 _ h6 hg6 hb6 ha6; have h6 := h6 (.inr hOb); have hO6 : OwnS w6 base v6 (L ++ [nm]) := owns_cast (a := L) (b := [nm]) h6; have hb26 : Below base w1 w6 := hbr.trans ((hbX.mono (by omega)).trans (((Below.of_alloc _).mono (by omega)).trans hb6)); clear h6 hg6 ha6 hnew hOb)
            go_roundw
            case rel => exact ⟨k + 1, L ++ [nm], _, by omega, by go_num, rfl, HADD.out.symm, hO6, hb26⟩
            case measure => simp [RowKit.intOf]; omega
    case neg =>
    obtain rfl : k = fl.length := by omega
    rw [List.take_length] at HL
    go_wp2_with fail
    go_ret
    obtain ⟨A6, k6, rfl, _, _, _⟩ := hOr.open_
    rw [← HL.out]
    exact ⟨A6, k6, rfl, hOr.lower (by have := HH.out; omega), by rw [HH.out]; exact hB1.trans (hbr.mono (by omega))⟩
end Go.Proofs.YthjephhojngiaaaGreatDoor
