/-
  segment.Build.
-/
import Derived.Test.YtacjiocffbgkkaaGreatSegF
namespace Go.Proofs.YtacjiocffbgkkaaGreat
open Go.RowKit Go.Lib Go.IntWalk Go.Sort Go.Shelf

def bldB : List UInt8 → List (List Ver) → List UInt8 × Int
  | acc, [] => (acc, 0)
  | acc, c :: r => if encVsE c ≠ 0 then ([], encVsE c) else bldB (acc ++ frm (encVsB c)) r
/-- the file of a segment, or the error -/
def bldF (t : List UInt8) (vs : List Ver) (n : Int) : List UInt8 × Int :=
  if nmW t = false then ([], 8)
  else if n < 1 ∨ 4096 < n then ([], 6)
  else if segChk none vs ≠ 0 then ([], segChk none vs)
  else if 1048576 < (headB t vs.length ((chunks n.toNat vs).map bndF)).length then ([], 5)
  else bldB (frm (headB t vs.length ((chunks n.toNat vs).map bndF))) (chunks n.toNat vs)
theorem segChk_closed {p : Option Ver} {xs : List Ver} (h : segChk p xs = 0) : ∀ x ∈ xs, closed x = true := by
  induction xs generalizing p with
  | nil => intro x hx; cases hx
  | cons x r ih =>
    rw [segChk_cons] at h
    split at h
    · rename_i hv
      split at h
      · intro y hy
        rcases List.mem_cons.1 hy with rfl | hy
        · exact hv
        · exact ih h y hy
      · cases h
    · cases h
theorem closed_valid {x : Ver} (h : closed x = true) : validVer x = true := by
  unfold closed at h
  rw [Bool.and_eq_true] at h
  exact h.1
theorem valid_per {x : Ver} (h : validVer x = true) : validP x.vf x.vt = true ∧ validP x.sf x.st = true := by
  unfold validVer at h
  simp only [Bool.and_eq_true] at h
  exact ⟨h.2.2.2.2.1, h.2.2.2.2.2.1⟩
theorem valid_rec {x : Ver} (h : validVer x = true) : RecOk (recOf x) := by
  obtain ⟨h1, h2⟩ := valid_per h
  unfold validP at h1 h2
  simp only [Bool.and_eq_true, decide_eq_true_eq] at h1 h2
  unfold RecOk recOf bd64
  simp only
  omega
theorem fold_rec (xs : List Ver) (hx : ∀ x ∈ xs, RecOk (recOf x)) : ∀ r, RecOk r → RecOk (xs.foldl (fun a v => joinR a (recOf v)) r) := by
  induction xs with
  | nil => intro r h; exact h
  | cons x q ih =>
    intro r h
    rw [List.foldl_cons]
    refine ih (fun y hy => hx y (List.mem_cons_of_mem _ hy)) _ ?_
    have hk := hx x (List.mem_cons_self ..)
    unfold RecOk bd64 at h hk ⊢
    unfold joinR
    simp only
    omega
theorem bnd_rec {xs : List Ver} (h : ∀ x ∈ xs, validVer x = true) : RecOk (bndF xs) := by
  cases xs with
  | nil => unfold bndF RecOk bd64; simp
  | cons x q => exact fold_rec _ (fun y hy => valid_rec (h y hy)) _ (valid_rec (h x (List.mem_cons_self ..)))
theorem frm_length (l : List UInt8) : (frm l).length = l.length + 8 := by
  unfold frm; simp only [List.length_append]; rw [show (be4 l.length).length = 4 from rfl, show (be4 (crcSum (be4 l.length) l)).length = 4 from rfl]; omega
theorem encVsB_le {c : List Ver} (h : encVsE c = 0) : (encVsB c).length ≤ 1048576 := by
  unfold encVsE at h
  split at h
  · cases h
  · split at h
    · rename_i h1; exact absurd h h1
    · split at h
      · cases h
      · omega
theorem Rd.at_own {w : World} {F : Nat → Prop} {size n : Nat} {v : Value} {cs : List Value} (h : Rd w F size v n cs) : Rd w (fun b => some b = v.ownBlock) size v n cs := by
  obtain ⟨h1, A, c, rfl, h2, h3, h4, h5⟩ := h
  refine ⟨h1, A, c, rfl, h2, h3, h4, fun hn => ?_⟩
  obtain ⟨ad, rfl, _, hc⟩ := h5 hn
  exact ⟨ad, rfl, rfl, hc⟩
def BldOut (res : List UInt8 × Int) (w0 : World) (e : Ending) (w : World) : Prop := ∃ u, e = .returned (.tuple #[u, .int .i64 res.2]) ∧ OwnB w w0.heap.size u res.1 ∧ Below w0.heap.size w0 w
theorem BldOut.no {res : List UInt8 × Int} {c : Int} {w0 w : World} {e : Ending} (hr : res = ([], c)) (he : e = .returned (.tuple #[.slice none 0 0, .int .i64 c])) (hb : Below w0.heap.size w0 w) : BldOut res w0 e w := by
  subst hr
  exact ⟨_, he, OwnB.nil _ _, hb⟩

set_option maxRecDepth 1000000 in
set_option maxHeartbeats 8000000 in
theorem build_any (t : List UInt8) (v : Value) (ps : List VP) (n : Int) (w : World) (hv : RdVs w (· < w.heap.size) v ps) (ht : t.length ≤ 1048576) (hl : ps.length ≤ 1048576) :
    Calls Tryz.prog 28 #[.string (strB t), v, .int .i64 n] w (BldOut (bldF t (ps.map (·.2)) n) w) := by
  obtain ⟨A, c, rfl, hc1, hc2, hc3⟩ := hv.1.open_
  unfold maxLen at hc2
  have KW := segWord_any t w
  have HV := Lib.hid hv
  obtain ⟨res, hres⟩ : ∃ r, r = bldF t (ps.map (·.2)) n := ⟨_, rfl⟩
  rw [← hres]
  have HRES := Lib.hid hres
  obtain ⟨S, hS⟩ : ∃ S, S = strB t := ⟨_, rfl⟩
  rw [← hS] at KW ⊢
  have HSS := Lib.hid hS
  obtain ⟨bw, hbw⟩ : ∃ b, b = nmW t := ⟨_, rfl⟩
  rw [← hbw] at KW
  have HBW := Lib.hid hbw
  clear hv hres hbw hS hc3
  cases bw
  case false =>
    have HR : Hid (res = ([], 8)) := Lib.hid (by rw [HRES.out]; exact if_pos HBW.out.symm)
    go_enter Tryz.func28, Tryz.ntmps28
    go_wp2_with fail
    (with_reducible refine KW.mono ?_)
    rintro _ w1 ⟨rfl, hb1⟩
    go_wp2_with fail
    go_ret2
    exact BldOut.no HR.out rfl hb1
  case true =>
    by_cases hn : n < 1 ∨ 4096 < n
    case pos =>
      have HR : Hid (res = ([], 6)) := Lib.hid (by rw [HRES.out, bldF, if_neg (by rw [← HBW.out]; decide)]; exact if_pos hn)
      rcases hn with hn | hn
      · go_enter Tryz.func28, Tryz.ntmps28
        go_wp2_with fail
        (with_reducible refine KW.mono ?_)
        rintro _ w1 ⟨rfl, hb1⟩
        go_wp2_with fail
        go_ret2
        exact BldOut.no HR.out rfl hb1
      · have hn1 : ¬ n < 1 := by omega
        go_enter Tryz.func28, Tryz.ntmps28
        go_wp2_with fail
        (with_reducible refine KW.mono ?_)
        rintro _ w1 ⟨rfl, hb1⟩
        go_wp2_with fail
        go_ret2
        exact BldOut.no HR.out rfl hb1
    case neg =>
      obtain ⟨m, rfl⟩ : ∃ m : Nat, n = (m : Int) := ⟨n.toNat, by omega⟩
      have hn1 : ¬ (m : Int) < 1 := fun h => hn (.inl h)
      have hn2 : ¬ (4096 : Int) < (m : Int) := fun h => hn (.inr h)
      have hm1 : 1 ≤ m := by omega
      have hm2 : m ≤ 4096 := by omega
      have HR1 : Hid (res = if segChk none (ps.map (·.2)) ≠ 0 then ([], segChk none (ps.map (·.2))) else if 1048576 < (headB t (ps.map (·.2)).length ((chunks m (ps.map (·.2))).map bndF)).length then ([], 5) else bldB (frm (headB t (ps.map (·.2)).length ((chunks m (ps.map (·.2))).map bndF))) (chunks m (ps.map (·.2)))) := Lib.hid (by
        rw [HRES.out, bldF, if_neg (by rw [← HBW.out]; decide), if_neg hn, Int.toNat_natCast])
      clear hn
      go_enter Tryz.func28, Tryz.ntmps28
      go_wp2_with fail
      (with_reducible refine KW.mono ?_)
      rintro _ w1 ⟨rfl, hb1⟩
      have KC := segCheck_any _ ps w1 (HV.out.below hb1)
      have HB1 := Lib.hid hb1
      obtain ⟨ce, hce⟩ : ∃ ce, ce = segChk none (ps.map (·.2)) := ⟨_, rfl⟩
      rw [← hce] at KC
      have HCE := Lib.hid hce
      clear hb1 hce KW
      go_wp2_with fail
      (with_reducible refine KC.mono ?_)
      rintro _ w2 ⟨rfl, hb2⟩
      have HB2 : Hid (Below w.heap.size w w2) := Lib.hid (HB1.out.trans (hb2.mono HB1.out.size))
      clear hb2 KC
      by_cases hc : ce = 0
      case neg =>
        have HR : Hid (res = ([], ce)) := Lib.hid (by rw [HR1.out, ← HCE.out]; exact if_pos hc)
        go_wp2_with fail
        go_ret2
        exact BldOut.no HR.out rfl HB2.out
      case pos =>
        subst hc
        have HCL : Hid (∀ x ∈ ps.map (·.2), validVer x = true) := Lib.hid (fun x hx => closed_valid (segChk_closed HCE.out.symm x hx))
        have KU := cut_any _ ps m w2 (HV.out.below HB2.out) hm1 (by omega) hl
        go_wp2_with fail
        (with_reducible refine KU.mono ?_)
        rintro _ w3 ⟨u, ls, rfl, hO3, hR3, hM3, hb3⟩
        have hB3 : Below w.heap.size w w3 := HB2.out.trans (hb3.mono HB2.out.size)
        have hmap : (ls.map (·.2)).map (List.map (·.2)) = chunks m (ps.map (·.2)) := by rw [hM3]; exact chunks_map (·.2) m hm1 ps.length ps (Nat.le_refl _)
        have hbr : ls.map bR = (chunks m (ps.map (·.2))).map bndF := by
          rw [← hmap, List.map_map, List.map_map]; rfl
        have hlen : ls.length ≤ 1048576 := by
          have e := congrArg List.length hM3
          rw [List.length_map] at e
          have := chunks_len m hm1 ps.length ps (Nat.le_refl _)
          omega
        have hvl : ∀ p ∈ ls, ∀ x ∈ p.2, validVer x.2 = true := fun p hp x hx => by
          have h1 : p.2 ∈ chunks m ps := by rw [← hM3]; exact List.mem_map_of_mem hp
          exact HCL.out _ (List.mem_map_of_mem ((chunks_mem hm1 ps.length ps (Nat.le_refl _) _ h1).2.2 x hx))
        have hrok : ∀ p ∈ ls, RecOk (bR p) := fun p hp => bnd_rec (fun x hx => by
          obtain ⟨y, hy, rfl⟩ := List.mem_map.1 hx
          exact hvl p hp y hy)
        have hbk := CutOut.rd hO3 (hR3 _ (HV.out.below HB2.out)) hb3
        have hrw := hR3 _ (HV.out.keep (Keeps.below HB2.out))
        have hub : ∀ b, some b = u.ownBlock → b < w3.heap.size ∧ ∃ cur, w3.heap[b]? = some (.cells cur 81 (0, 0)) := fun b hb => by
          obtain ⟨_, cur, hg⟩ := own_block hO3 hb
          exact ⟨(Array.getElem?_eq_some_iff.1 hg).1, cur, hg⟩
        have hrk := Rd.at_own (Rd.of_own hO3)
        have HRW := Lib.hid hrw
        have HUB := Lib.hid hub
        have HRK := Lib.hid hrk
        clear hrw hub hrk
        have KH := head_any t ps.length u ls w3 hbk hrok ht (by omega) hlen
        rw [← HSS.out, hbr] at KH
        have hcs : chunks m (ps.map (·.2)) = ls.map (fun p => p.2.map (·.2)) := by rw [← hmap, List.map_map]; rfl
        have hR2 : res = if 1048576 < (headB t ps.length ((chunks m (ps.map (·.2))).map bndF)).length then ([], 5) else bldB (frm (headB t ps.length ((chunks m (ps.map (·.2))).map bndF))) (chunks m (ps.map (·.2))) := by
          rw [HR1.out, if_neg (by rw [← HCE.out]; simp), List.length_map]
        obtain ⟨H, hH⟩ : ∃ H, H = headB t ps.length ((chunks m (ps.map (·.2))).map bndF) := ⟨_, rfl⟩
        rw [← hH] at KH hR2
        rw [hcs] at hR2
        have hHl : H.length ≤ 50000000 := by
          have := hdPre_le t ps.length ((chunks m (ps.map (·.2))).map bndF).length
          have h2 := hdRs_le ((chunks m (ps.map (·.2))).map bndF)
          have h3 : ((chunks m (ps.map (·.2))).map bndF).length = ls.length := by rw [← hbr, List.length_map]
          rw [hH, headB, List.length_append]
          omega
        have HR2 := Lib.hid hR2
        have HBK := Lib.hid hbk
        have HB3 := Lib.hid hB3
        obtain ⟨Ab, cb, rfl, z1, z2, z3⟩ := hbk.1.open_
        unfold maxLen at z2
        clear hH hcs hO3 hR3 hM3 hb3 hmap hbr hvl hrok hR2 hbk hB3 KU z3
        go_wp2_with fail
        (with_reducible refine KH.mono ?_)
        rintro _ w4 ⟨vh, rfl, hOh, hb4⟩
        have HB4 : Hid (Below w.heap.size w w4) := Lib.hid (HB3.out.trans (hb4.mono HB3.out.size))
        have HU4 : Hid (∀ b, some b = Value.ownBlock (.slice Ab ls.length cb) → w4.heap[b]? = w3.heap[b]?) := Lib.hid (fun b hb => hb4.block b (HUB.out b hb).1)
        have HZ4 : Hid (w3.heap.size ≤ w4.heap.size) := Lib.hid hb4.size
        have HOH := Lib.hid hOh
        clear hb4 hOh KH
        by_cases hlong : 1048576 < H.length
        case pos =>
          have HR : Hid (res = ([], 5)) := Lib.hid (by rw [HR2.out]; exact if_pos hlong)
          have KL := frAppend_long (.slice none 0 0) vh H (· < w4.heap.size) w4 HOH.out.rd (by omega)
          go_wp2_with fail
          (with_reducible refine KL.mono ?_)
          rintro _ w5 ⟨rfl, hw5⟩
          rw [← hw5]
          clear hw5
          go_wp2_with fail
          go_ret2
          exact BldOut.no HR.out rfl HB4.out
        case neg =>
          have KA := frAppend_any vh H w4 HOH.out.rd (by omega)
          have HR3 : Hid (res = bldB (frm H) (ls.map (fun p => p.2.map (·.2)))) := Lib.hid (by rw [HR2.out]; exact if_neg hlong)
          have hfl := frm_length H
          go_wp2_with fail
          (with_reducible refine KA.mono ?_)
          rintro _ w5 ⟨v5, rfl, hO5, hb5⟩
          have hB5 : Below w.heap.size w w5 := HB4.out.trans (hb5.mono HB4.out.size)
          have HO5 : Hid (OwnB w5 w.heap.size v5 (frm H)) := Lib.hid (OwnB.base hO5 HB4.out.size)
          have HU5 : Hid (∀ b, some b = Value.ownBlock (.slice Ab ls.length cb) → w5.heap[b]? = w3.heap[b]?) := Lib.hid (fun b hb => (hb5.block b (by have := (HUB.out b hb).1; have := HZ4.out; omega)).trans (HU4.out b hb))
          obtain ⟨L0, hL0⟩ : ∃ L0, L0 = frm H := ⟨_, rfl⟩
          rw [← hL0] at HO5 HR3 hfl
          clear hO5 hb5 KA hL0
          go_wp2_with fail
          go_loopw [10, 48] (fun o i wr => ∃ (k : Nat) (L : List UInt8), i = .int .i64 (k : Int) ∧ k ≤ ls.length ∧ L.length ≤ 100000000 + k * 1048584 ∧ Hid (OwnB wr w.heap.size o L) ∧ Hid (res = bldB L ((ls.drop k).map (fun p => p.2.map (·.2)))) ∧ Hid (∀ b, some b = Value.ownBlock (.slice Ab ls.length cb) → wr.heap[b]? = w3.heap[b]?) ∧ Below w.heap.size w wr) (fun _ i _ => ls.length - (intOf i).toNat)
          case atStart => exact ⟨0, L0, rfl, Nat.zero_le _, by omega, HO5, HR3, HU5, hB5⟩
          case round =>
            obtain ⟨k, L, rfl, hk, hLl, HO, HR, HW, hB⟩ := hrel
            obtain ⟨wi, rfl⟩ : ∃ wi : World, wi = wr := ⟨_, rfl⟩
            have hsi := hB.size
            by_cases hlt : k < ls.length
            case neg =>
              have HF : Hid (res = (L, 0)) := Lib.hid (by rw [HR.out, List.drop_of_length_le (by omega)]; rfl)
              go_wp2_with fail
              go_ret2
              rw [HF.out]
              exact ⟨_, rfl, HO.out, hB⟩
            case pos =>
              have hbkw : RdBk wi (fun b => some b = Value.ownBlock (.slice Ab ls.length cb) ∨ b < w.heap.size) (.slice Ab ls.length cb) ls := ⟨(Rd.keep HRK.out (fun b hb => HW.out b hb)).wide (fun b hb => .inl hb), fun p hp => ((HRW.out p hp).keep (w' := wi) (fun b hb => (hB.block b hb).trans (HB2.out.block b hb).symm)).wide (fun b hb => .inr hb)⟩
              have hx := ((HRW.out _ (List.getElem_mem hlt)).keep (w' := wi) (fun b hb => (hB.block b hb).trans (HB2.out.block b hb).symm)).wide (G := (· < wi.heap.size)) (fun b (hb : b < w.heap.size) => by show b < wi.heap.size; omega)
              obtain ⟨b0, off, rfl, hF, hcl, -⟩ := RdBk.at_ hbkw hlt
              clear hbkw
              have hdr : (ls.drop k).map (fun p => p.2.map (·.2)) = ls[k].2.map (·.2) :: (ls.drop (k + 1)).map (fun p => p.2.map (·.2)) := by rw [List.drop_eq_getElem_cons hlt, List.map_cons]
              obtain ⟨Ap, pn, cp, hpv⟩ : ∃ Ap pn cp, ls[k].1 = .slice Ap pn cp := by
                obtain ⟨Ap, cp, h, _⟩ := hx.1.open_
                exact ⟨Ap, _, cp, h⟩
              have hbe : blkE ls[k] = (bR ls[k]).enc ++ [.slice Ap pn cp] := by rw [← hpv]; rfl
              rw [hbe] at hcl
              rw [hpv] at hx
              generalize ls[k].2 = qs at *
              generalize bR ls[k] = r at *
              obtain ⟨r1, r2, r3, r4⟩ := r
              have g0 : wi.cell? ⟨b0, off + k * 5, none⟩ = some (.int .i64 r1) := hcl 0 _ (by decide) rfl
              have g1 : wi.cell? ⟨b0, off + k * 5 + 1, none⟩ = some (.int .i64 r2) := hcl 1 _ (by decide) rfl
              have g2 : wi.cell? ⟨b0, off + k * 5 + 2, none⟩ = some (.int .i64 r3) := hcl 2 _ (by decide) rfl
              have g3 : wi.cell? ⟨b0, off + k * 5 + 3, none⟩ = some (.int .i64 r4) := hcl 3 _ (by decide) rfl
              have g4 : wi.cell? ⟨b0, off + k * 5 + 4, none⟩ = some (.slice Ap pn cp) := hcl 4 _ (by decide) rfl
              have hR5 := HR.out
              rw [hdr] at hR5
              have hbb : Below wi.heap.size wi (wi.alloc (.cells #[.int .i64 r1, .int .i64 r2, .int .i64 r3, .int .i64 r4, .slice Ap pn cp] 81)) := Below.of_alloc _
              have KE := encodeVersions_any _ qs (wi.alloc (.cells #[.int .i64 r1, .int .i64 r2, .int .i64 r3, .int .i64 r4, .slice Ap pn cp] 81)) (hx.below hbb)
              unfold EncVOut at KE
              obtain ⟨xs, hxs⟩ : ∃ xs, xs = qs.map (·.2) := ⟨_, rfl⟩
              rw [← hxs] at hR5
              rw [← hxs] at KE
              have HR5 := Lib.hid hR5
              have HBB := Lib.hid hbb
              obtain ⟨ee, hee⟩ : ∃ ee, ee = encVsE xs := ⟨_, rfl⟩
              rw [← hee] at KE
              have HEE := Lib.hid hee
              clear hcl hx hdr hpv hbe hR5 hbb hxs hee
              go_wp2_with fail
              (with_reducible refine KE.mono ?_)
              rintro _ w6 ⟨ub, rfl, hb6, hy, hno⟩
              have HB6 : Hid (Below wi.heap.size wi w6) := Lib.hid (HBB.out.trans (hb6.mono HBB.out.size))
              have HY := Lib.hid hy
              have HNO := Lib.hid hno
              clear hb6 hy hno KE
              by_cases he : ee = 0
              case neg =>
                have HF : Hid (res = ([], ee)) := Lib.hid (by rw [HR5.out, bldB, ← HEE.out]; exact if_pos he)
                rw [HNO.out he]
                go_wp2_with fail
                go_ret2
                exact BldOut.no HF.out rfl (hB.trans (HB6.out.mono hsi))
              case pos =>
                have hE0 : encVsE xs = 0 := by rw [← HEE.out]; exact he
                have hbl := encVsB_le hE0
                have HF : Hid (res = bldB (L ++ frm (encVsB xs)) ((ls.drop (k + 1)).map (fun p => p.2.map (·.2)))) := Lib.hid (by rw [HR5.out, bldB, if_neg (by simpa using hE0)])
                have hOb := HY.out he
                have KA := frAppend_any ub (encVsB xs) w6 hOb.rd hbl
                have hfl2 := frm_length (encVsB xs)
                obtain ⟨Q, hQ⟩ : ∃ Q, Q = frm (encVsB xs) := ⟨_, rfl⟩
                rw [← hQ] at HF KA hfl2
                have hQl : Q.length ≤ 1048584 := by omega
                clear hQ hfl2 hE0 hOb hbl
                subst he
                go_wp2_with fail
                (with_reducible refine KA.mono ?_)
                rintro _ w7 ⟨v7, rfl, hO7, hb7⟩
                have HB7 : Hid (Below wi.heap.size wi w7) := Lib.hid (HB6.out.trans (hb7.mono HB6.out.size))
                have HO7 := Lib.hid hO7
                have hOL : OwnB w7 w.heap.size _ L := own_below HO.out HB7.out
                have HOL := Lib.hid hOL
                have hs7 : w.heap.size ≤ w7.heap.size := by have := HB7.out.size; omega
                have hs7i : wi.heap.size ≤ w7.heap.size := HB7.out.size
                obtain ⟨Ao, co, rfl, x1, x2, x3⟩ := Rd.open_ (Rd.of_own hOL)
                obtain ⟨A7, c7, rfl, x4, x5, x6⟩ := Rd.open_ hO7.rd
                clear hb7 hO7 KA hOL x2 x3 x5 x6
                have hkl : k * 1048584 ≤ 1048576 * 1048584 := Nat.mul_le_mul_right _ (by omega)
                have hbyt : L.length + Q.length ≤ 140737488355328 := by omega
                go_wp2_with (at_builtin; refine wpList_append_b rfl (.tmp 69) (.tmp 70) rfl w.heap.size (.slice Ao L.length co) L rfl HOL.out (· < w7.heap.size) _ Q rfl HO7.out.rd (by omega) (by omega) ?_; intro v8 w8 hO8 hb8 hg8 hv8)
                all_goals skip
                have HO8 := Lib.hid hO8
                have hB8 : Below w.heap.size w w8 := (hB.trans (HB7.out.mono hsi)).trans hb8
                have HW8 : Hid (∀ b, some b = Value.ownBlock (.slice (some ⟨b0, off, none⟩) ls.length cb) → w8.heap[b]? = w3.heap[b]?) := Lib.hid (fun b hb => by
                  have e3 := HW.out b hb
                  obtain ⟨hl3, cur, hc3⟩ := HUB.out b hb
                  have hli : b < wi.heap.size := by rw [hc3] at e3; exact (Array.getElem?_eq_some_iff.1 e3).1
                  have e7 := HB7.out.block b hli
                  have hty : w7.heap[b]? = some (.cells cur 81 (0, 0)) := e7.trans (e3.trans hc3)
                  exact (hg8.block b (by omega) (own_not HOL.out hty (by decide))).trans (e7.trans e3))
                clear hO8 hb8 hg8 hv8
                go_wp2_with fail
                go_roundw
                case rel => exact ⟨k + 1, L ++ Q, by go_num, by omega, by rw [List.length_append]; omega, HO8, HF, HW8, hB8⟩
                case measure => simp [intOf]; omega
end Go.Proofs.YtacjiocffbgkkaaGreat
