/-
  ref37.Build.
-/
import Derived.Test.YtacjiocffbgkkaaGreatRtG
namespace Go.Proofs.YtacjiocffbgkkaaGreat
open Go.RowKit Go.Lib Go.IntWalk Go.Sort Go.Shelf

theorem infoLL : (Tryz.prog.info? 22).map (fun i => (i.zero, i.size, i.bytes)) = some (some (.slice none 0 0), 1, 24) := by kernel_rfl
def OwnLL (w : World) (base : Nat) (v : Value) (ls : List LVP) : Prop := w.ownsRow base 22 1 v ls.length (ls.map (·.1))
theorem BldOut.of {r1 r2 : List UInt8 × Int} {w0 w : World} {e : Ending} (h : BldOut r1 w0 e w) (he : r2 = r1) : BldOut r2 w0 e w := he ▸ h

set_option maxRecDepth 1000000 in
set_option maxHeartbeats 16000000 in
theorem refBuild_any (t : List UInt8) (v : Value) (ps : List VP) (n : Int) (w : World) (hv : RdVs w (· < w.heap.size) v ps) (ht : t.length ≤ 1048576) (hl : ps.length ≤ 1048576) :
    Calls Tryz.prog 8 #[.string (strB t), v, .int .i64 n] w (BldOut (bldF t (ps.map (·.2)) n) w) := by
  obtain ⟨A, c, rfl, hc1, hc2, hc3⟩ := hv.1.open_
  unfold maxLen at hc2
  have KW := refName_any t w (by unfold maxLen; omega)
  have HV := Lib.hid hv
  obtain ⟨res, hres⟩ : ∃ r, r = bldF t (ps.map (·.2)) n := ⟨_, rfl⟩
  rw [← hres]
  have HRES := Lib.hid hres
  have KT := refPutText_any (.slice none 0 0) [] (strB t)
  have hsz : (strB t).size = t.length := strB_size t
  have hdt : (strB t).data.toList = t := by simp [strB]
  rw [hsz, hdt] at KT
  obtain ⟨S, hS⟩ : ∃ S, S = strB t := ⟨_, rfl⟩
  rw [← hS] at KW KT hsz ⊢
  obtain ⟨bw, hbw⟩ : ∃ b, b = nmW t := ⟨_, rfl⟩
  rw [← hbw] at KW
  have HBW := Lib.hid hbw
  have HKT := Lib.hid KT
  clear hv hres hbw hS hc3 hdt KT
  cases bw
  case false =>
    have HR : Hid (res = ([], 8)) := Lib.hid (by rw [HRES.out]; exact if_pos HBW.out.symm)
    go_enter Tryz.func8, Tryz.ntmps8
    go_wp2_with fail
    (with_reducible refine KW.mono ?_)
    rintro _ w1 ⟨rfl, hw1⟩
    rw [← hw1]
    clear hw1 w1
    go_wp2_with fail
    go_ret2
    exact BldOut.no HR.out rfl (Below.refl _ _)
  case true =>
    by_cases hn : n < 1 ∨ 4096 < n
    case pos =>
      have HR : Hid (res = ([], 6)) := Lib.hid (by rw [HRES.out, bldF, if_neg (by rw [← HBW.out]; decide)]; exact if_pos hn)
      rcases hn with hn | hn
      · go_enter Tryz.func8, Tryz.ntmps8
        go_wp2_with fail
        (with_reducible refine KW.mono ?_)
        rintro _ w1 ⟨rfl, hw1⟩
        rw [← hw1]
        clear hw1 w1
        go_wp2_with fail
        go_ret2
        exact BldOut.no HR.out rfl (Below.refl _ _)
      · have hn1 : ¬ n < 1 := by omega
        go_enter Tryz.func8, Tryz.ntmps8
        go_wp2_with fail
        (with_reducible refine KW.mono ?_)
        rintro _ w1 ⟨rfl, hw1⟩
        rw [← hw1]
        clear hw1 w1
        go_wp2_with fail
        go_ret2
        exact BldOut.no HR.out rfl (Below.refl _ _)
    case neg =>
      obtain ⟨m0, rfl⟩ : ∃ m : Nat, n = (m : Int) := ⟨n.toNat, by omega⟩
      have hn1 : ¬ (m0 : Int) < 1 := fun h => hn (.inl h)
      have hn2 : ¬ (4096 : Int) < (m0 : Int) := fun h => hn (.inr h)
      have hm1 : 1 ≤ m0 := by omega
      have hm2 : m0 ≤ 4096 := by omega
      have HR1 : Hid (res = if segChk none (ps.map (·.2)) ≠ 0 then ([], segChk none (ps.map (·.2))) else if 1048576 < (headB t (ps.map (·.2)).length ((chunks m0 (ps.map (·.2))).map bndF)).length then ([], 5) else bldB (frm (headB t (ps.map (·.2)).length ((chunks m0 (ps.map (·.2))).map bndF))) (chunks m0 (ps.map (·.2)))) := Lib.hid (by
        rw [HRES.out, bldF, if_neg (by rw [← HBW.out]; decide), if_neg hn, Int.toNat_natCast])
      clear hn
      have KC := refSegCheck_any _ ps w HV.out
      obtain ⟨ce, hce⟩ : ∃ ce, ce = segChk none (ps.map (·.2)) := ⟨_, rfl⟩
      rw [← hce] at KC
      have HCE := Lib.hid hce
      clear hce
      obtain ⟨i0, hi, hz0, hz1, hz2⟩ := info_parts infoLL
      have HI := Lib.hid hi
      have HZ0 := Lib.hid hz0
      have HZ1 := Lib.hid hz1
      have HZ2 := Lib.hid hz2
      clear hi hz0 hz1 hz2
      go_enter Tryz.func8, Tryz.ntmps8
      go_wp2_with fail
      (with_reducible refine KW.mono ?_)
      rintro _ w1 ⟨rfl, hw1⟩
      rw [← hw1]
      clear hw1 w1 KW
      go_wp2_with fail
      (with_reducible refine KC.mono ?_)
      rintro _ w2 ⟨rfl, hb2⟩
      have HB2 := Lib.hid hb2
      clear hb2 KC
      by_cases hc : ce = 0
      case neg =>
        have HR : Hid (res = ([], ce)) := Lib.hid (by rw [HR1.out, ← HCE.out]; exact if_pos hc)
        go_wp2_with fail
        go_ret2
        exact BldOut.no HR.out rfl HB2.out
      case pos =>
        subst hc
        have HCL : Hid (∀ x ∈ ps.map (·.2), validVer x = true) := Lib.hid (fun x hx => closed_valid (segChk_closed HCE.out.symm x hx))
        go_wp2_with fail
        go_loopw [9, 10] (fun o i wr => ∃ (a : Nat) (ls : List LVP), i = .int .i64 (a : Int) ∧ a ≤ ps.length + m0 ∧ ls.length ≤ a ∧ Hid (OwnLL wr w.heap.size o ls) ∧ Hid (∀ p ∈ ls, RdVs w (· < w.heap.size) p.1 p.2) ∧ Hid (ls.map (·.2) ++ chunks m0 (ps.drop a) = chunks m0 ps) ∧ Hid (Below w.heap.size w wr)) (fun _ i _ => ps.length + m0 - (intOf i).toNat)
        case atStart => exact ⟨0, [], rfl, by omega, Nat.zero_le _, Lib.hid (World.ownsRow_nil _ _ _ _), Lib.hid (fun p hp => by cases hp), Lib.hid (by simp), HB2⟩
        case round =>
          obtain ⟨a, ls, rfl, ha, hla, HO, HR, HC, HB⟩ := hrel
          obtain ⟨wi, rfl⟩ : ∃ wi : World, wi = wr := ⟨_, rfl⟩
          have hsi := HB.out.size
          obtain ⟨Ao, co, rfl, o1, o2, o3⟩ := Rd.open_ (Rd.of_own HO.out)
          unfold maxLen at o2
          clear o3
          by_cases hlt : a < ps.length
          case pos =>
            obtain ⟨m, hm⟩ : ∃ m, m = min (a + m0) ps.length := ⟨_, rfl⟩
            have hmi : min ((a : Int) + (m0 : Int)) (ps.length : Int) = (m : Int) := by omega
            have ham : a < m := by omega
            have hml : m ≤ ps.length := by omega
            have htk : (ps.drop a).take (m - a) = (ps.drop a).take m0 := by
              by_cases hh : a + m0 ≤ ps.length
              · rw [show m - a = m0 by omega]
              · rw [List.take_of_length_le (by rw [List.length_drop]; omega), List.take_of_length_le (by rw [List.length_drop]; omega)]
            have hcut := RdVs.cut HV.out (i := a) (j := m) (m := c) (by omega) hml (by omega) (Nat.le_refl _)
            rw [htk] at hcut
            have hch := chunks_cons hm1 (l := ps.drop a) (by rw [List.length_drop]; omega)
            rw [List.drop_drop] at hch
            have hC2 := HC.out
            rw [hch] at hC2
            have hsl := fun W => slice_vers (A := A) (n := ps.length) (c := c) a m (by omega) (by omega) W
            obtain ⟨qs, hqs⟩ : ∃ qs, qs = (ps.drop a).take m0 := ⟨_, rfl⟩
            rw [← hqs] at hcut hC2
            have HCUT := Lib.hid hcut
            have HC2 := Lib.hid hC2
            have HOA : Hid (OwnLL (wi.alloc (.cells #[(.slice (cutA A c a 9) (m - a) (c - a))] 22)) w.heap.size (.slice Ao ls.length co) ls) := Lib.hid (World.ownsRow.alloc HO.out _)
            have hnew : Rd (wi.alloc (.cells #[(.slice (cutA A c a 9) (m - a) (c - a))] 22)) (· = wi.heap.size) 1 (.slice (some ⟨wi.heap.size, 0, none⟩) 1 1) 1 [(.slice (cutA A c a 9) (m - a) (c - a))] := Rd.new' wi wi.heap.size rfl [(.slice (cutA A c a 9) (m - a) (c - a))] 22 1 1 rfl (by decide)
            have HNEW := Lib.hid hnew
            have HONE : Hid (∀ u ∈ [Value.slice (cutA A c a 9) (m - a) (c - a)], u.oneCell' = true) := Lib.hid (by
              intro u hu
              rw [List.mem_singleton] at hu
              subst hu; rfl)
            clear hcut hC2 hch htk hqs hm hnew
            go_wp2_with (at_builtin; refine wpList_append_app (wi.alloc (.cells #[(.slice (cutA A c a 9) (m - a) (c - a))] 22)) rfl (.tmp 41) (.tmp 51) 36 rfl w.heap.size 22 i0 _ 1 24 Tryz.underlying36 HI.out HZ0.out HZ1.out HZ2.out rfl (by omega) (.slice Ao ls.length co) ls.length (ls.map fun p : LVP => p.1) rfl (.inl HOA.out) (· = wi.heap.size) _ 1 [(.slice (cutA A c a 9) (m - a) (c - a))] rfl HNEW.out HONE.out (by unfold maxLen; omega) (by omega) (by simp; omega) ?_; intro v3 w3 _ hO3 hg3 hb3 hv3)
            all_goals skip
            have hO3' : OwnLL w3 w.heap.size v3 (ls ++ [((.slice (cutA A c a 9) (m - a) (c - a)), qs)]) := by
              have h := hO3 (.inl (by omega))
              unfold OwnLL
              rw [List.length_append, List.map_append]
              exact h
            have hB3 : Below w.heap.size w w3 := (HB.out.trans ((Below.of_alloc _).mono hsi)).trans hb3
            have HO4 := Lib.hid hO3'
            have HB4 := Lib.hid hB3
            have HR4 : Hid (∀ p ∈ ls ++ [(((.slice (cutA A c a 9) (m - a) (c - a)), qs) : LVP)], RdVs w (· < w.heap.size) p.1 p.2) := Lib.hid (fun p hp => by
              rcases List.mem_append.1 hp with hp | hp
              · exact HR.out p hp
              · rw [List.mem_singleton] at hp; subst hp; exact HCUT.out)
            clear hO3 hO3' hg3 hb3 hv3 hB3 hsl
            go_wp2_with fail
            go_roundw
            case rel => exact ⟨a + m0, _, by go_num, by omega, by simp; omega, HO4, HR4, Lib.hid (by rw [← HC2.out]; simp), HB4⟩
            case measure => simp [intOf]; omega
          case neg =>
            have hM3 : ls.map (·.2) = chunks m0 ps := by rw [← HC.out, List.drop_of_length_le (by omega), chunks_nil, List.append_nil]
            have hmap : (ls.map (·.2)).map (List.map (·.2)) = chunks m0 (ps.map (·.2)) := by rw [hM3]; exact chunks_map (·.2) m0 hm1 ps.length ps (Nat.le_refl _)
            have hbr : ls.map bR = (chunks m0 (ps.map (·.2))).map bndF := by
              rw [← hmap, List.map_map, List.map_map]; rfl
            have hlen : ls.length ≤ 1048576 := by
              have e := congrArg List.length hM3
              rw [List.length_map] at e
              have := chunks_len m0 hm1 ps.length ps (Nat.le_refl _)
              omega
            have hvl : ∀ p ∈ ls, 0 < p.2.length ∧ ∀ x ∈ p.2, validVer x.2 = true := fun p hp => by
              have h1 : p.2 ∈ chunks m0 ps := by rw [← hM3]; exact List.mem_map_of_mem hp
              obtain ⟨q1, _, q3⟩ := chunks_mem hm1 ps.length ps (Nat.le_refl _) _ h1
              exact ⟨q1, fun x hx => HCL.out _ (List.mem_map_of_mem (q3 x hx))⟩
            have hrok : ∀ p ∈ ls, RecOk (bR p) := fun p hp => bnd_rec (fun x hx => by
              obtain ⟨y, hy, rfl⟩ := List.mem_map.1 hx
              exact (hvl p hp).2 y hy)
            have hcs : chunks m0 (ps.map (·.2)) = ls.map (fun p => p.2.map (·.2)) := by rw [← hmap, List.map_map]; rfl
            have hR2 : res = if 1048576 < (headB t ps.length ((chunks m0 (ps.map (·.2))).map bndF)).length then ([], 5) else bldB (frm (headB t ps.length ((chunks m0 (ps.map (·.2))).map bndF))) (chunks m0 (ps.map (·.2))) := by
              rw [HR1.out, if_neg (by rw [← HCE.out]; simp), List.length_map]
            have hhd : headB t ps.length ((chunks m0 (ps.map (·.2))).map bndF) = hdPre t ps.length ls.length ++ hdRs (ls.map bR) := by rw [← hbr, headB, List.length_map]
            rw [hhd, hcs] at hR2
            have hLL : RdLL wi (· < wi.heap.size) (.slice Ao ls.length co) ls := ⟨(Rd.of_own HO.out).wide fun _ hb => hb.2, fun p hp => (HR.out p hp).below HB.out⟩
            have HLL := Lib.hid hLL
            have HR2 := Lib.hid hR2
            have HROK := Lib.hid hrok
            have HVL := Lib.hid hvl
            have HPRE := Lib.hid (hdPre_le t ps.length ls.length)
            have K1 := HKT.out wi (RdB.nil _ _) (by simp; omega)
            rw [List.nil_append] at K1
            clear hM3 hmap hbr hvl hrok hcs hR2 hhd hLL HO HR HC
            go_wp2_with fail
            (with_reducible refine K1.mono ?_)
            rintro _ y1 ⟨v1, rfl, hO1, hb1⟩
            have K2 := refPutInt_any v1 _ (ps.length : Nat) y1 (by omega) (by omega) hO1.rd (by have := encI_length (t.length : Nat); simp only [List.length_append]; omega)
            clear K1
            go_wp2_with fail
            (with_reducible refine K2.mono ?_)
            rintro _ y2 ⟨v2, rfl, hO2, hb2⟩
            have K3 := refPutInt_any v2 _ (ls.length : Nat) y2 (by omega) (by omega) hO2.rd (by have := encI_length (t.length : Nat); have := encI_length (ps.length : Nat); simp only [List.length_append]; omega)
            have hY2 : Below wi.heap.size wi y2 := hb1.trans (hb2.mono hb1.size)
            clear K2 hO1 hb1 hb2
            go_wp2_with fail
            (with_reducible refine K3.mono ?_)
            rintro _ y3 ⟨v3, rfl, hO3, hb3⟩
            have HY3 : Hid (Below wi.heap.size wi y3) := Lib.hid (hY2.trans (hb3.mono hY2.size))
            have HO3 : Hid (OwnB y3 wi.heap.size v3 (hdPre t ps.length ls.length ++ hdRs ((ls.map bR).take 0))) := Lib.hid ((OwnB.base hO3 hY2.size).cast (by simp [hdPre, hdRs]))
            clear K3 hO2 hO3 hb3 hY2
            go_wp2_with fail
            go_loopw [11, 63] (fun b i wr => ∃ k : Nat, i = .int .i64 (k : Int) ∧ k ≤ ls.length ∧ Hid (OwnB wr wi.heap.size b (hdPre t ps.length ls.length ++ hdRs ((ls.map bR).take k))) ∧ Hid (Below wi.heap.size wi wr)) (fun _ i _ => ls.length - (intOf i).toNat)
            case atStart => exact ⟨0, rfl, Nat.zero_le _, HO3, HY3⟩
            case round =>
              obtain ⟨k, rfl, hk, HO, HY⟩ := hrel
              obtain ⟨wk, rfl⟩ : ∃ wk : World, wk = wr := ⟨_, rfl⟩
              have hsk := HY.out.size
              by_cases hlt2 : k < ls.length
              case pos =>
                obtain ⟨b, off, rfl, hF, hcl, hx⟩ := RdLL.at_ (HLL.out.below HY.out) hlt2
                have hrk := HROK.out _ (List.getElem_mem hlt2)
                have hne := (HVL.out _ (List.getElem_mem hlt2)).1
                have hsn := hdRs_snoc (rs := ls.map bR) (k := k) (by rw [List.length_map]; exact hlt2)
                rw [List.getElem_map] at hsn
                have hle := hdRs_le ((ls.map bR).take k)
                rw [List.length_take, List.length_map] at hle
                have KA := refAround_any _ ls[k].2 wk hx hne
                obtain ⟨Ap, pn, cp, hpv⟩ : ∃ Ap pn cp, ls[k].1 = .slice Ap pn cp := by
                  obtain ⟨Ap, cp, h, _⟩ := hx.1.open_
                  exact ⟨Ap, _, cp, h⟩
                rw [hpv] at hcl KA
                have hbr : bndF (ls[k].2.map (·.2)) = bR ls[k] := rfl
                rw [hbr] at KA
                clear hpv hbr hx hne
                generalize bR ls[k] = r at *
                obtain ⟨r1, r2, r3, r4⟩ := r
                obtain ⟨⟨a1, a2⟩, ⟨b1, b2⟩, ⟨d1, d2⟩, ⟨e1, e2⟩⟩ := hrk
                simp only at a1 a2 b1 b2 d1 d2 e1 e2
                have KA' : Calls Tryz.prog 33 #[.slice Ap pn cp] wk fun e w' => e = .returned (.agg #[.int .i64 r1, .int .i64 r2, .int .i64 r3, .int .i64 r4]) ∧ Below wk.heap.size wk w' := KA
                obtain ⟨L, hL⟩ : ∃ L, L = hdPre t ps.length ls.length ++ hdRs ((ls.map bR).take k) := ⟨_, rfl⟩
                have hLl : L.length ≤ 50000000 := by rw [hL, List.length_append]; have := HPRE.out; omega
                have hfin : hdPre t ps.length ls.length ++ hdRs ((ls.map bR).take (k + 1)) = (L ++ (encI r1 ++ encI r2)) ++ (encI r3 ++ encI r4) := by rw [hsn, ← List.append_assoc, ← hL]; simp [hdR]
                have HO1 : Hid (RdB wk (· < wk.heap.size) u11 L) := Lib.hid (by rw [hL]; exact HO.out.rd)
                have KP : ∀ v W, RdB W (· < W.heap.size) v L → Calls Tryz.prog 34 #[v, .agg #[.int .i64 r1, .int .i64 r2]] W (NewB W (L ++ (encI r1 ++ encI r2))) := fun v W h => refPutPeriod_any v L r1 r2 W a1 a2 b1 b2 h (by omega)
                obtain ⟨L1, hL1⟩ : ∃ L1, L1 = L ++ (encI r1 ++ encI r2) := ⟨_, rfl⟩
                have l1 : L1.length ≤ L.length + 20 := by rw [hL1]; simp only [List.length_append]; have := encI_length r1; have := encI_length r2; omega
                rw [← hL1] at KP hfin
                have KQ : ∀ v W, RdB W (· < W.heap.size) v L1 → Calls Tryz.prog 34 #[v, .agg #[.int .i64 r3, .int .i64 r4]] W (NewB W (L1 ++ (encI r3 ++ encI r4))) := fun v W h => refPutPeriod_any v L1 r3 r4 W d1 d2 e1 e2 h (by omega)
                obtain ⟨L2, hL2⟩ : ∃ L2, L2 = L1 ++ (encI r3 ++ encI r4) := ⟨_, rfl⟩
                rw [← hL2] at KQ hfin
                have HFIN := Lib.hid hfin
                clear hsn hle hL hL1 hL2 hfin HO KA
                go_wp2_with fail
                (with_reducible refine KA'.mono ?_)
                rintro _ z1 ⟨rfl, hz1⟩
                obtain ⟨wb, hwb⟩ : ∃ wb, wb = z1.alloc (.cells #[.int .i64 r1, .int .i64 r2, .int .i64 r3, .int .i64 r4] 26) := ⟨_, rfl⟩
                obtain ⟨T, hT⟩ : ∃ T, T = z1.heap.size := ⟨_, rfl⟩
                have hbb : Below wk.heap.size wk wb := by rw [hwb]; exact hz1.alloc hz1.size _
                have hTb : wb.heap[T]? = some (.cells #[.int .i64 r1, .int .i64 r2, .int .i64 r3, .int .i64 r4] 26 (0, 0)) := by rw [hwb, hT]; exact heap_alloc_new _ _
                have hTl : T < wb.heap.size := by rw [hwb, hT]; simp
                have HBB := Lib.hid hbb
                have HTB := Lib.hid hTb
                clear hbb hTb hz1 KA'
                go_wp2_with fail
                rw [← hwb, ← hT]
                clear hwb hT
                have hR0 := HO1.out.below HBB.out
                refine wp_region_noPanic ?_
                refine wp_region_held_drew (S := (fun w' => Below wb.heap.size wb w')) (by kernel_rfl) ?_ (fun hHeld => ?_)
                · exact (Below.refl _ _).drew
                refine heldTake 0 (some 69) (v := ?_) rfl rfl (by kernel_rfl) (by kernel_rfl) (by kernel_rfl) (by rfl) hHeld (fun _ _ _ h => h) ?_ ?_
                rotate_left
                · intro w' hSw; (try dsimp only at hSw); go_simp <;> with_reducible rfl
                simp only [Act.put, List.setIfInBounds_toArray, List.set_cons_zero, List.set_cons_succ]
                refine heldTake 1 (some 70) (v := ?_) rfl rfl (by kernel_rfl) (by kernel_rfl) (by kernel_rfl) (by rfl) hHeld (fun _ _ _ h => h) ?_ ?_
                rotate_left
                · intro w' hSw; (try dsimp only at hSw); go_simp <;> with_reducible rfl
                simp only [Act.put, List.setIfInBounds_toArray, List.set_cons_zero, List.set_cons_succ]
                refine heldTake 2 (some 71) (v := ?_) rfl rfl (by kernel_rfl) (by kernel_rfl) (by kernel_rfl) (by rfl) hHeld (fun _ _ _ h => h) ?_ ?_
                rotate_left
                · intro w' hSw; (try dsimp only at hSw); have q0 : w'.cell? ⟨T, 0, none⟩ = some (.int .i64 r1) := (World.cell?_of_block (hSw.block T hTl)).trans (cell_of_row wb T 0 _ _ _ HTB.out); have q1 : w'.cell? ⟨T, 1, none⟩ = some (.int .i64 r2) := (World.cell?_of_block (hSw.block T hTl)).trans (cell_of_row wb T 1 _ _ _ HTB.out); go_simp <;> with_reducible rfl
                simp only [Act.put, List.setIfInBounds_toArray, List.set_cons_zero, List.set_cons_succ]
                refine heldTake 4 (some 73) (v := ?_) rfl rfl (by kernel_rfl) (by kernel_rfl) (by kernel_rfl) (by rfl) hHeld (fun _ _ _ h => h) ?_ ?_
                rotate_left
                · intro w' hSw; (try dsimp only at hSw); go_simp <;> with_reducible rfl
                simp only [Act.put, List.setIfInBounds_toArray, List.set_cons_zero, List.set_cons_succ]
                refine heldTake 5 (some 74) (v := ?_) rfl rfl (by kernel_rfl) (by kernel_rfl) (by kernel_rfl) (by rfl) hHeld (fun _ _ _ h => h) ?_ ?_
                rotate_left
                · intro w' hSw; (try dsimp only at hSw); have q2 : w'.cell? ⟨T, 2, none⟩ = some (.int .i64 r3) := (World.cell?_of_block (hSw.block T hTl)).trans (cell_of_row wb T 2 _ _ _ HTB.out); have q3 : w'.cell? ⟨T, 3, none⟩ = some (.int .i64 r4) := (World.cell?_of_block (hSw.block T hTl)).trans (cell_of_row wb T 3 _ _ _ HTB.out); go_simp <;> with_reducible rfl
                simp only [Act.put, List.setIfInBounds_toArray, List.set_cons_zero, List.set_cons_succ]
                refine heldCall 3 (some 72) (f := ?_) (args := ?_) rfl rfl (by kernel_rfl) (by rfl) ?_ ?_
                rotate_left 2
                · go_simp <;> first | (constructor <;> with_reducible rfl) | with_reducible rfl
                (with_reducible refine (KP _ _ (hR0.below (Below.refl _ _).drew)).mono ?_)
                rintro _ x1 ⟨v1, rfl, hO1, hb1'⟩
                have hb1 : Below wb.heap.size wb x1 := Below.undrew hb1'
                have hR1 := hO1.rd
                refine ⟨_, rfl, keepAnd ?_ (fun hNew => ?_)⟩
                · exact hb1
                clear hHeld
                have hHeld := hNew
                clear hNew
                simp only [Act.put, List.setIfInBounds_toArray, List.set_cons_zero, List.set_cons_succ]
                refine heldCall 6 (some 75) (f := ?_) (args := ?_) rfl rfl (by kernel_rfl) (by rfl) ?_ ?_
                rotate_left 2
                · go_simp <;> first | (constructor <;> with_reducible rfl) | with_reducible rfl
                (with_reducible refine (KQ _ _ hR1).mono ?_)
                rintro _ x2 ⟨v2, rfl, hO2, hb2'⟩
                have hb2 : Below x1.heap.size x1 x2 := hb2'
                have hR2 := hO2.rd
                have hc2 : Below wb.heap.size wb x2 := hb1.trans (hb2.mono hb1.size)
                refine ⟨_, rfl, keepAnd ?_ (fun hNew => ?_)⟩
                · exact hc2
                clear hHeld
                have hHeld := hNew
                clear hNew
                simp only [Act.put, List.setIfInBounds_toArray, List.set_cons_zero, List.set_cons_succ]
                refine heldTake 7 (some 11) (v := ?_) rfl rfl (by kernel_rfl) (by kernel_rfl) (by kernel_rfl) (by rfl) hHeld (fun _ _ _ h => h) ?_ ?_
                rotate_left
                · intro w' hSw; (try dsimp only at hSw); go_simp <;> with_reducible rfl
                simp only [Act.put, List.setIfInBounds_toArray, List.set_cons_zero, List.set_cons_succ]
                refine wpAnyH_done (by kernel_rfl) ?_ _
                refine NoPanic.normal ?_
                clear hHeld
                have HYF : Hid (Below wi.heap.size wi x2) := Lib.hid (HY.out.trans ((HBB.out.trans (hc2.mono HBB.out.size)).mono hsk))
                have HOF : Hid (OwnB x2 wi.heap.size v2 (hdPre t ps.length ls.length ++ hdRs ((ls.map bR).take (k + 1)))) := Lib.hid ((OwnB.base hO2 (by have h1 := HBB.out.size; have h3 := hb1.size; omega)).cast HFIN.out.symm)
                clear hR0 hR1 hR2 hO1 hO2 hb1 hb2 hb1' hb2' hc2 KP KQ
                go_wp2_with fail
                go_roundw
                case rel => exact ⟨k + 1, by go_num, by omega, HOF, HYF⟩
                case measure => simp [intOf]; omega
              case neg =>
                obtain ⟨H, hH⟩ : ∃ H, H = hdPre t ps.length ls.length ++ hdRs (ls.map bR) := ⟨_, rfl⟩
                have hRH : RdB wk (· < wk.heap.size) u11 H := by
                  have h := HO.out.rd
                  rw [List.take_of_length_le (by rw [List.length_map]; omega), ← hH] at h
                  exact h
                have hR3 := HR2.out
                rw [← hH] at hR3
                have HR3 := Lib.hid hR3
                have HLK := Lib.hid (HLL.out.below HY.out)
                have HBK : Hid (Below w.heap.size w wk) := Lib.hid (HB.out.trans (HY.out.mono hsi))
                have hHl : H.length ≤ 50000000 := by
                  have h1 := hdRs_le (ls.map bR)
                  rw [List.length_map] at h1
                  have := HPRE.out
                  rw [hH, List.length_append]; omega
                clear hR3 hH HO
                by_cases hlong : 1048576 < H.length
                case pos =>
                  have HR : Hid (res = ([], 5)) := Lib.hid (by rw [HR3.out]; exact if_pos hlong)
                  have KL := tappend_long (.slice none 0 0) u11 H (· < wk.heap.size) wk hRH (by omega)
                  go_wp2_with fail
                  (with_reducible refine KL.mono ?_)
                  rintro _ x5 ⟨v5, rfl, hO5, hb5⟩
                  have HB5 := Lib.hid (HBK.out.trans (hb5.mono HBK.out.size))
                  clear hO5 hb5 KL
                  go_wp2_with fail
                  go_loopw [15, 16, 17] (fun o e i wr => e = .int .i64 5 ∧ i = .int .i64 0 ∧ wr = x5) (fun _ _ _ _ => 0)
                  case atStart => exact ⟨rfl, rfl, rfl⟩
                  case round =>
                    obtain ⟨rfl, rfl, hw⟩ := hrel
                    rw [hw]
                    clear hw
                    by_cases h0 : 0 < ls.length
                    all_goals
                      go_wp2_with fail
                      go_ret2
                      exact BldOut.no HR.out rfl HB5.out
                case neg =>
                  have KL := tappendG_any (.slice none 0 0) u11 [] H wk (RdB.nil _ _) hRH (by omega) (by simp)
                  rw [List.nil_append] at KL
                  have HR4 : Hid (res = bldB (frm H) (ls.map (fun p => p.2.map (·.2)))) := Lib.hid (by rw [HR3.out]; exact if_neg hlong)
                  have hfl := frm_length H
                  go_wp2_with fail
                  (with_reducible refine KL.mono ?_)
                  rintro _ x5 ⟨v5, rfl, hO5, hb5⟩
                  have HB5 := Lib.hid (HBK.out.trans (hb5.mono HBK.out.size))
                  have HO5 := Lib.hid (OwnB.base hO5 HBK.out.size)
                  have HL5 := Lib.hid (HLK.out.below hb5)
                  obtain ⟨L0, hL0⟩ : ∃ L0, L0 = frm H := ⟨_, rfl⟩
                  rw [← hL0] at HO5 HR4 hfl
                  clear hO5 hb5 KL hL0 hRH
                  go_wp2_with fail
                  go_loopw [15, 16, 17] (fun o e i wr => ∃ (k : Nat) (L : List UInt8), e = .int .i64 0 ∧ i = .int .i64 (k : Int) ∧ k ≤ ls.length ∧ L.length ≤ 100000000 + k * 1048584 ∧ Hid (OwnB wr w.heap.size o L) ∧ Hid (res = bldB L ((ls.drop k).map (fun p => p.2.map (·.2)))) ∧ Hid (Below x5.heap.size x5 wr) ∧ Hid (Below w.heap.size w wr)) (fun _ _ i _ => ls.length - (intOf i).toNat)
                  case atStart => exact ⟨0, L0, rfl, rfl, Nat.zero_le _, by omega, HO5, HR4, Lib.hid (Below.refl _ _), HB5⟩
                  case round =>
                    obtain ⟨k, L, rfl, rfl, hk, hLl, HO, HR, HW, HB⟩ := hrel
                    obtain ⟨wq, rfl⟩ : ∃ wq : World, wq = wr := ⟨_, rfl⟩
                    have hsq := HB.out.size
                    by_cases hlt3 : k < ls.length
                    case neg =>
                      have HF : Hid (res = (L, 0)) := Lib.hid (by rw [HR.out, List.drop_of_length_le (by omega)]; rfl)
                      go_wp2_with fail
                      go_ret2
                      rw [HF.out]
                      exact ⟨_, rfl, HO.out, HB.out⟩
                    case pos =>
                      obtain ⟨b, off, rfl, hF, hcl, hx⟩ := RdLL.at_ (HL5.out.below HW.out) hlt3
                      have hdr : (ls.drop k).map (fun p => p.2.map (·.2)) = ls[k].2.map (·.2) :: (ls.drop (k + 1)).map (fun p => p.2.map (·.2)) := by rw [List.drop_eq_getElem_cons hlt3, List.map_cons]
                      obtain ⟨Ap, pn, cp, hpv⟩ : ∃ Ap pn cp, ls[k].1 = .slice Ap pn cp := by
                        obtain ⟨Ap, cp, h, _⟩ := hx.1.open_
                        exact ⟨Ap, _, cp, h⟩
                      rw [hpv] at hx hcl
                      generalize ls[k].2 = qs at *
                      have hR5 := HR.out
                      rw [hdr] at hR5
                      have KE := refEncodeVersions_any _ qs wq hx
                      unfold EncVOut at KE
                      obtain ⟨xs, hxs⟩ : ∃ xs, xs = qs.map (·.2) := ⟨_, rfl⟩
                      rw [← hxs] at hR5
                      rw [← hxs] at KE
                      have HR5 := Lib.hid hR5
                      obtain ⟨ee, hee⟩ : ∃ ee, ee = encVsE xs := ⟨_, rfl⟩
                      rw [← hee] at KE
                      have HEE := Lib.hid hee
                      clear hx hdr hpv hR5 hxs hee
                      go_wp2_with fail
                      (with_reducible refine KE.mono ?_)
                      rintro _ w6 ⟨ub, rfl, hb6, hy, hno⟩
                      have HB6 := Lib.hid hb6
                      have HY6 := Lib.hid hy
                      have HNO := Lib.hid hno
                      clear hb6 hy hno KE
                      by_cases he : ee = 0
                      case neg =>
                        have HF : Hid (res = ([], ee)) := Lib.hid (by rw [HR5.out, bldB, ← HEE.out]; exact if_pos he)
                        rw [HNO.out he]
                        go_wp2_with fail
                        go_ret2
                        exact BldOut.no HF.out rfl (HB.out.trans (HB6.out.mono hsq))
                      case pos =>
                        have hE0 : encVsE xs = 0 := by rw [← HEE.out]; exact he
                        have hbl := encVsB_le hE0
                        have HF : Hid (res = bldB (L ++ frm (encVsB xs)) ((ls.drop (k + 1)).map (fun p => p.2.map (·.2)))) := Lib.hid (by rw [HR5.out, bldB, if_neg (by simpa using hE0)])
                        have hOb := HY6.out he
                        have hkl : k * 1048584 ≤ 1048576 * 1048584 := Nat.mul_le_mul_right _ (by omega)
                        have KA := tappendG_any _ ub L (encVsB xs) w6 (HO.out.rd.below HB6.out) hOb.rd hbl (by omega)
                        have hfl2 := frm_length (encVsB xs)
                        have hQl : (L ++ frm (encVsB xs)).length ≤ L.length + 1048584 := by rw [List.length_append]; omega
                        obtain ⟨Q, hQ⟩ : ∃ Q, Q = L ++ frm (encVsB xs) := ⟨_, rfl⟩
                        rw [← hQ] at HF KA hQl
                        clear hQ hfl2 hE0 hOb hbl
                        subst he
                        go_wp2_with fail
                        (with_reducible refine KA.mono ?_)
                        rintro _ w7 ⟨v7, rfl, hO7, hb7⟩
                        have HB7 : Hid (Below wq.heap.size wq w7) := Lib.hid (HB6.out.trans (hb7.mono HB6.out.size))
                        have HO7 := Lib.hid (OwnB.base (b' := w.heap.size) hO7 (by have := HB6.out.size; omega))
                        have HWF : Hid (Below x5.heap.size x5 w7) := Lib.hid (HW.out.trans (HB7.out.mono HW.out.size))
                        have HBF : Hid (Below w.heap.size w w7) := Lib.hid (HB.out.trans (HB7.out.mono hsq))
                        clear hO7 hb7 KA
                        go_wp2_with fail
                        go_roundw
                        case rel => exact ⟨k + 1, Q, by first | rfl | trivial, by go_num, by omega, by omega, HO7, HF, HWF, HBF⟩
                        case measure => simp [intOf]; omega
end Go.Proofs.YtacjiocffbgkkaaGreat
