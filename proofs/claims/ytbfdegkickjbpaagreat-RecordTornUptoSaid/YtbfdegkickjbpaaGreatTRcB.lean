/-
 RcB
-/
import Derived.Test.YtbfdegkickjbpaaGreatTRcA
namespace Go.Proofs.YtbfdegkickjbpaaGreat
open Go.RowKit Go.Lib Go.IntWalk Go.Sort Go.Shelf
/-- a fact -/
structure Fct where
 row : List Val
 vf : Int
 vt : Int
/-- a fact as it lies -/
structure RF where
 rA : Option Addr
 rn : Nat
 rc : Nat
 row : List Val
 vf : Int
 vt : Int
def RF.fct (p : RF) : Fct := ⟨p.row, p.vf, p.vt⟩
def RF.enc (p : RF) : List Value := [.slice p.rA p.rn p.rc, .int .i64 p.vf, .int .i64 p.vt]
def RF.is (w : World) (F : Nat → Prop) (p : RF) : Prop := RdV w F (.slice p.rA p.rn p.rc) p.row ∧ ∀ v ∈ p.row, goV v
def RdFs (w : World) (F : Nat → Prop) (v : Value) (ps : List RF) : Prop := RdE 3 RF.enc w F v ps ∧ ∀ p ∈ ps, p.is w F
theorem RdFs.below {w w' : World} {v : Value} {ps : List RF} (h : RdFs w (· < w.heap.size) v ps) (hb : Below w.heap.size w w') : RdFs w' (· < w'.heap.size) v ps :=
 ⟨h.1.below hb, fun p hp => ⟨(Rd.keep (h.2 p hp).1 (Keeps.below hb)).wide (fun b (hb' : b < w.heap.size) => by show b < w'.heap.size; have := hb.size; omega), (h.2 p hp).2⟩⟩
def intE (n : Int) : List Value := [.int .i64 n]
def Fct.ok (x : Fct) : Bool := validRowF x.row && validP x.vf x.vt
/-- the error of the versions that a delta closes -/
def closeF (first : Int) : Option Int → List Int → Int
 | _, [] => 0
 | p, n :: r => if ¬ (1 ≤ n ∧ n ≤ first - 1) then 6 else if (match p with | some q => decide (n ≤ q) | none => false) = true then 9 else closeF first (some n) r
def opensF (l : List Fct) : Int := if l.all Fct.ok = true then 0 else 8
def deltaF (first : Int) (cl : List Int) (l : List Fct) : Int := if closeF first none cl ≠ 0 then closeF first none cl else opensF l
theorem closeF_cons {first n : Int} {p : Option Int} {r : List Int} : closeF first p (n :: r) = if ¬ (1 ≤ n ∧ n ≤ first - 1) then 6 else if (match p with | some q => decide (n ≤ q) | none => false) = true then 9 else closeF first (some n) r := by
 cases p <;> rfl
def prevI (l : List Int) (k : Nat) : Option Int := if k = 0 then none else l[k - 1]?
theorem prevI_succ {l : List Int} {k : Nat} (h : k < l.length) : prevI l (k + 1) = some l[k] := by
 unfold prevI; rw [if_neg (Nat.succ_ne_zero k), Nat.add_sub_cancel, List.getElem?_eq_getElem h]
theorem closeF_at {first : Int} {p : Option Int} {l : List Int} {k : Nat} (h : k < l.length) : closeF first p (l.drop k) = if ¬ (1 ≤ l[k] ∧ l[k] ≤ first - 1) then 6 else if (match p with | some q => decide (l[k] ≤ q) | none => false) = true then 9 else closeF first (prevI l (k + 1)) (l.drop (k + 1)) := by
 rw [List.drop_eq_getElem_cons h, closeF_cons, prevI_succ h]
theorem closeF_end {first : Int} {p : Option Int} {l : List Int} {k : Nat} (h : l.length ≤ k) : closeF first p (l.drop k) = 0 := by
 rw [List.drop_of_length_le h]; cases p <;> rfl
theorem okF_take {l : List Fct} {k : Nat} (hk : k < l.length) (h : (l.take k).all Fct.ok = true) (h2 : l[k].ok = true) : (l.take (k + 1)).all Fct.ok = true := by
 rw [List.take_succ_eq_append_getElem hk, List.all_append, h]
 simp [h2]
theorem okF_bad {l : List Fct} {k : Nat} (hk : k < l.length) (h2 : l[k].ok = false) : opensF l = 8 := by
 unfold opensF
 rw [if_neg]
 intro h
 have := List.all_eq_true.1 h _ (List.getElem_mem hk)
 rw [h2] at this
 cases this
set_option maxRecDepth 1000000 in
set_option maxHeartbeats 8000000 in
theorem checkDelta_any (S : ByteArray) (cv ov : Value) (cl : List Int) (ops : List RF) (first : Int) (w : World) (hc : RdE 1 intE w (· < w.heap.size) cv cl) (ho : RdFs w (· < w.heap.size) ov ops) (hf : 1 ≤ first) (hf2 : first ≤ 1125899906842624) :
  Calls Tryz.prog 34 #[.agg #[.string S, cv, ov], .int .i64 first] w fun e w' => e = .returned (.int .i64 (deltaF first cl (ops.map RF.fct))) ∧ Below w.heap.size w w' := by
 obtain ⟨cA, cc, rfl, a1, a2, a3⟩ := Rd.open_ (show Rd w _ 1 cv cl.length (cl.flatMap intE) from hc)
 obtain ⟨oA, oc, rfl, b1, b2, b3⟩ := Rd.open_ (show Rd w _ 3 ov ops.length (ops.flatMap RF.enc) from ho.1)
 unfold maxLen at a2 b2
 obtain ⟨W, hW⟩ : ∃ W, W = w.alloc (.cells #[.string S, .slice cA cl.length cc, .slice oA ops.length oc] 63) := ⟨_, rfl⟩
 have hbW : Below w.heap.size w W := by rw [hW]; exact Below.of_alloc _
 have hWs : w.heap.size < W.heap.size := by rw [hW]; simp
 have hT : W.heap[w.heap.size]? = some (.cells #[.string S, .slice cA cl.length cc, .slice oA ops.length oc] 63 (0, 0)) := by rw [hW]; exact heap_alloc_new _ _
 have HC := Lib.hid (hc.below hbW)
 have HO := Lib.hid ho
 have HBW := Lib.hid hbW
 have HT := Lib.hid hT
 have HWS := Lib.hid hWs
 obtain ⟨res, hres⟩ : ∃ r, r = deltaF first cl (ops.map RF.fct) := ⟨_, rfl⟩
 rw [← hres]
 have HRES := Lib.hid hres
 have t0 : W.cell? ⟨w.heap.size, 0, none⟩ = some (.string S) := cell_of_row W _ 0 _ _ _ hT
 have t1 : W.cell? ⟨w.heap.size, 1, none⟩ = some (.slice cA cl.length cc) := cell_of_row W _ 1 _ _ _ hT
 have t2 : W.cell? ⟨w.heap.size, 2, none⟩ = some (.slice oA ops.length oc) := cell_of_row W _ 2 _ _ _ hT
 clear hc ho hbW hT hWs hres a3 b3
 go_enter Tryz.func34, Tryz.ntmps34
 go_wp2_with fail
 rw [← hW]
 clear hW
 go_loopw [12] (fun i wr => ∃ k : Nat, i = .int .i64 (k : Int) ∧ k ≤ cl.length ∧ Hid (closeF first (prevI cl k) (cl.drop k) = closeF first none cl) ∧ wr = W) (fun i _ => cl.length - (intOf i).toNat)
 case atStart => exact ⟨0, rfl, Nat.zero_le _, Lib.hid rfl, rfl⟩
 case round =>
  obtain ⟨k, rfl, hk, HG, hw⟩ := hrel
  rw [hw]
  clear hw
  by_cases hlt : k < cl.length
  case pos =>
   obtain ⟨b, off, rfl, hF, hcl⟩ := RdE.at_ (K := 1) (enc := intE) (fun _ => rfl) (by omega) HC.out hlt
   have hg := HG.out
   rw [closeF_at hlt] at hg
   have hcx := hcl k hlt 0 _ (by decide) rfl
   rw [Nat.mul_one, Nat.add_zero] at hcx
   have HCL := Lib.hid hcl
   obtain ⟨x, hx⟩ : ∃ x, x = cl[k] := ⟨_, rfl⟩
   rw [← hx] at hg hcx
   have hnx := prevI_succ hlt
   rw [← hx] at hnx
   have HNX := Lib.hid hnx
   have HG2 := Lib.hid hg
   clear hcl hF hg hx hnx
   have hfs1 : first - 1 ≤ 9223372036854775807 := by omega
   have hfs2 : -9223372036854775808 ≤ first - 1 := by omega
   have KW := within_any x 1 (first - 1) W
   by_cases hin : 1 ≤ x ∧ x ≤ first - 1
   case neg =>
    rw [decide_eq_false hin] at KW
    have HE : Hid (res = 6) := Lib.hid (by
     have h := HG2.out
     rw [if_pos hin] at h
     rw [HRES.out, deltaF, ← h]
     exact if_pos (by decide))
    clear hin
    go_wp2_with fail
    (with_reducible refine KW.mono ?_)
    rintro _ z1 ⟨rfl, hz⟩
    rw [hz]
    clear hz z1 KW
    go_wp2_with fail
    go_ret
    exact ⟨by rw [HE.out]; rfl, HBW.out⟩
   case pos =>
    rw [decide_eq_true hin] at KW
    have hg3 := HG2.out
    rw [if_neg (by simpa using hin)] at hg3
    have HG3 := Lib.hid hg3
    clear hin hg3
    go_wp2_with fail
    (with_reducible refine KW.mono ?_)
    rintro _ z1 ⟨rfl, hz⟩
    rw [hz]
    clear hz z1 KW
    by_cases hk0 : k = 0
    case pos =>
     have HN : Hid (closeF first (prevI cl (k + 1)) (cl.drop (k + 1)) = closeF first none cl) := Lib.hid (by rw [← HG3.out]; exact (if_neg (by simp [prevI, hk0])).symm)
     subst hk0
     go_wp2_with fail
     go_roundw
     case rel => exact ⟨1, by go_num, hlt, HN, by first | trivial | rfl⟩
     case measure => simp [intOf]; omega
    case neg =>
     obtain ⟨m, rfl⟩ : ∃ m, k = m + 1 := ⟨k - 1, by omega⟩
     have hml : m < cl.length := by omega
     have hcy := HCL.out m hml 0 _ (by decide) rfl
     rw [Nat.mul_one, Nat.add_zero] at hcy
     have hpv := prevI_succ hml
     have hg4 := HG3.out
     rw [hpv] at hg4
     obtain ⟨y, hy⟩ : ∃ y, y = cl[m] := ⟨_, rfl⟩
     rw [← hy] at hcy hg4
     simp only at hg4
     have HG4 := Lib.hid hg4
     have ew : IntKind.i64.wrap (((m + 1 : Nat) : Int) - 1) = ((m : Nat) : Int) := by rw [IntKind.wrap_i64]; omega
     have hil : (m : Int) < (cl.length : Int) := by omega
     obtain ⟨z, hz⟩ : ∃ z, z = m + 1 := ⟨_, rfl⟩
     have HML : Hid (z < cl.length) := Lib.hid (by omega)
     have hip : (0 : Int) < (z : Int) := by omega
     have hzl : z + 1 ≤ 9223372036854775807 := by omega
     have hz0 : 0 < z := by omega
     have HN2 : Hid (closeF first (prevI cl (z + 1)) (cl.drop (z + 1)) = closeF first (prevI cl (m + 1 + 1)) (cl.drop (m + 1 + 1))) := Lib.hid (by rw [hz])
     have HZM := Lib.hid hz
     rw [← hz] at ew ⊢
     clear hpv hg4 hy HNX HCL HG HG2 HG3 hlt hk hk0 hz hcx
     by_cases hle : x ≤ y
     case pos =>
      have HE : Hid (res = 9) := Lib.hid (by
       have h := HG4.out
       rw [if_pos (by simpa using hle)] at h
       rw [HRES.out, deltaF, ← h]
       exact if_pos (by decide))
      go_wp2_with fail
      go_ret
      exact ⟨by rw [HE.out]; rfl, HBW.out⟩
     case neg =>
      have HN : Hid (closeF first (prevI cl (z + 1)) (cl.drop (z + 1)) = closeF first none cl) := Lib.hid (by rw [HN2.out, ← HG4.out]; exact (if_neg (by simpa using hle)).symm)
      go_wp2_with fail
      go_roundw
      case rel => exact ⟨z + 1, by go_num, by have := HML.out; omega, HN, by first | trivial | rfl⟩
      case measure => have := HML.out; have := HZM.out; simp [intOf]; omega
  case neg =>
   have hlt2 : ¬ (k : Int) < (cl.length : Int) := by omega
   have HR2 : Hid (res = opensF (ops.map RF.fct)) := Lib.hid (by
    have h := HG.out
    rw [closeF_end (by omega)] at h
    rw [HRES.out, deltaF, ← h]
    exact if_neg (by simp))
   clear HG
   go_wp2_with fail
   clear hlt2 hlt
   go_loopw [38] (fun i wr => ∃ j : Nat, i = .int .i64 (j : Int) ∧ j ≤ ops.length ∧ Hid (((ops.map RF.fct).take j).all Fct.ok = true) ∧ Hid (Below w.heap.size w wr)) (fun i _ => ops.length - (intOf i).toNat)
   case atStart => exact ⟨0, rfl, Nat.zero_le _, Lib.hid rfl, HBW⟩
   case round =>
    obtain ⟨j, rfl, hj, HG, HB⟩ := hrel
    obtain ⟨wi, rfl⟩ : ∃ wi : World, wi = wr := ⟨_, rfl⟩
    by_cases hltj : j < ops.length
    case neg =>
     have hlt3 : ¬ (j : Int) < (ops.length : Int) := by omega
     have HE : Hid (res = 0) := Lib.hid (by
      have h := HG.out
      rw [List.take_of_length_le (by rw [List.length_map]; omega)] at h
      rw [HR2.out, opensF, if_pos h])
     go_wp2_with fail
     go_ret
     exact ⟨by rw [HE.out]; rfl, HB.out⟩
    case pos =>
     have hlt3 : (j : Int) < (ops.length : Int) := by omega
     have hbi : Below w.heap.size w wi := HB.out
     obtain ⟨b, off, rfl, hF, hcl⟩ := RdE.at_ (K := 3) (enc := RF.enc) (fun _ => rfl) (by omega) (HO.out.1.below hbi) hltj
     have hcx := hcl j hltj
     have hxi := (HO.out.below hbi).2 _ (List.getElem_mem hltj)
     obtain ⟨x, hx⟩ : ∃ x, x = ops[j] := ⟨_, rfl⟩
     have hjm : j < (ops.map RF.fct).length := by rw [List.length_map]; exact hltj
     have htk : ((ops.map RF.fct).take j).all Fct.ok = true → x.fct.ok = true → ((ops.map RF.fct).take (j + 1)).all Fct.ok = true := fun h h2 => okF_take hjm h (by rw [List.getElem_map, ← hx]; exact h2)
     have hbd : x.fct.ok = false → opensF (ops.map RF.fct) = 8 := fun h => okF_bad hjm (by rw [List.getElem_map, ← hx]; exact h)
     clear hjm
     rw [← hx] at hcx hxi
     obtain ⟨xA, xn, xc, xr, x1, x2⟩ := x
     simp only [RF.is, RF.fct, Fct.ok] at hxi htk hbd
     have g0 : wi.cell? ⟨b, off + j * 3, none⟩ = some (.slice xA xn xc) := hcx 0 _ (by decide) rfl
     have g1 : wi.cell? ⟨b, off + j * 3 + 1, none⟩ = some (.int .i64 x1) := hcx 1 _ (by decide) rfl
     have g2 : wi.cell? ⟨b, off + j * 3 + 2, none⟩ = some (.int .i64 x2) := hcx 2 _ (by decide) rfl
     have HTK := Lib.hid htk
     have HBD := Lib.hid hbd
     obtain ⟨W1, hW1⟩ : ∃ W1, W1 = wi.alloc (.cells #[.slice xA xn xc, .int .i64 x1, .int .i64 x2] 68) := ⟨_, rfl⟩
     have hb1 : Below wi.heap.size wi W1 := by rw [hW1]; exact Below.of_alloc _
     have hF1 : W1.heap[wi.heap.size]? = some (.cells #[.slice xA xn xc, .int .i64 x1, .int .i64 x2] 68 (0, 0)) := by rw [hW1]; exact heap_alloc_new _ _
     have hl1 : wi.heap.size < W1.heap.size := by rw [hW1]; simp
     have KR := validRow_any (.slice xA xn xc) xr W1 ((Rd.keep hxi.1 (Keeps.below hb1)).wide (fun b (hb : b < wi.heap.size) => by show b < W1.heap.size; omega)) hxi.2
     have KP := fun V => pvR_any x1 x2 V
     obtain ⟨v0, hv0⟩ : ∃ bo, bo = validRowF xr := ⟨_, rfl⟩
     obtain ⟨v1, hv1⟩ : ∃ bo, bo = validP x1 x2 := ⟨_, rfl⟩
     rw [← hv0] at KR HTK HBD
     rw [← hv1] at KP HTK HBD
     have HF1 := Lib.hid hF1
     have HL1 := Lib.hid hl1
     have HB1 : Hid (Below w.heap.size w W1) := Lib.hid (HB.out.trans (hb1.mono HB.out.size))
     clear hcl hcx hxi htk hbd hx hb1 hF1 hl1 hF hv0 hv1 hbi
     go_wp2_with fail
     rw [← hW1]
     clear hW1 g0 g1 g2
     (with_reducible refine KR.mono ?_)
     rintro _ y1 ⟨rfl, hy1⟩
     have hT2 := (hy1.block _ HL1.out).trans HF1.out
     have q1 : y1.cell? ⟨wi.heap.size, 1, none⟩ = some (.int .i64 x1) := cell_of_row y1 _ 1 _ _ _ hT2
     have q2 : y1.cell? ⟨wi.heap.size, 2, none⟩ = some (.int .i64 x2) := cell_of_row y1 _ 2 _ _ _ hT2
     have HY1 : Hid (Below w.heap.size w y1) := Lib.hid (HB1.out.trans (hy1.mono HB1.out.size))
     clear hy1 hT2 KR
     cases v0
     case false =>
      have HE : Hid (res = 8) := Lib.hid (by rw [HR2.out]; exact HBD.out rfl)
      go_wp2_with fail
      go_ret
      exact ⟨by rw [HE.out]; rfl, HY1.out⟩
     case true =>
      have KP := KP y1
      go_wp2_with fail
      (with_reducible refine KP.mono ?_)
      rintro _ y2 ⟨rfl, hy2⟩
      have HY2 : Hid (Below w.heap.size w y2) := Lib.hid (HY1.out.trans (hy2.mono HY1.out.size))
      clear hy2 KP q1 q2
      cases v1
      case false =>
       have HE : Hid (res = 8) := Lib.hid (by rw [HR2.out]; exact HBD.out rfl)
       go_wp2_with fail
       go_ret
       exact ⟨by rw [HE.out]; rfl, HY2.out⟩
      case true =>
       have HN : Hid (((ops.map RF.fct).take (j + 1)).all Fct.ok = true) := Lib.hid (HTK.out HG.out rfl)
       go_wp2_with fail
       go_roundw
       case rel => exact ⟨j + 1, by go_num, hltj, HN, HY2⟩
       case measure => simp [intOf]; omega
end Go.Proofs.YtbfdegkickjbpaaGreat
