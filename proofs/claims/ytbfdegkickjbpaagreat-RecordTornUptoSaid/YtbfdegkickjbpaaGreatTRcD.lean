/-
 RcD
-/
import Derived.Test.YtbfdegkickjbpaaGreatTRcC
namespace Go.Proofs.YtbfdegkickjbpaaGreat
open Go.RowKit Go.Lib Go.IntWalk Go.Sort Go.Shelf
/-- an expression as it lies -/
inductive RE where
 | mk (op int : Int) (val : Val) (name : ByteArray) (A : Option Addr) (c : Nat) (args : List RE)
def RE.enc : RE → List Value
 | .mk op int val name A c args => [.int .i64 op, .int .i64 int, .int .i64 val.kind, .int .i64 val.int, .string val.text, .string name, .slice A args.length c]
theorem RE.enc_length (e : RE) : e.enc.length = 7 := by cases e; rfl
/-- the first d levels of an expression lie as it says -/
def exIs : Nat → World → (Nat → Prop) → RE → Prop
 | 0, _, _, _ => True
 | d + 1, w, F, .mk _ _ val name A c args => RdE 7 RE.enc w F (.slice A args.length c) args ∧ goV val ∧ name.size ≤ maxLen ∧ ∀ a ∈ args, exIs d w F a
theorem exIs_below {w w' : World} (hb : Below w.heap.size w w') : ∀ (d : Nat) (e : RE), exIs d w (· < w.heap.size) e → exIs d w' (· < w'.heap.size) e := by
 intro d
 induction d with
 | zero => intro e _; trivial
 | succ d ih =>
  intro e h
  obtain ⟨op, it, val, nm, A, c, args⟩ := e
  obtain ⟨h1, h2, h3, h4⟩ := h
  exact ⟨h1.below hb, h2, h3, fun a ha => ih a (h4 a ha)⟩
def chP (c : UInt8) : Bool := decide (32 ≤ (c.toNat : Int) ∧ (c.toNat : Int) ≤ 126)
/-- what storedExpr answers; d: the levels that are left -/
def okX : Nat → RE → Bool
 | 0, _ => false
 | d + 1, .mk op int val name _ _ args => decide (1 ≤ op ∧ op ≤ 26) && (decide (-1125899906842624 ≤ int ∧ int ≤ 1125899906842624) && (validV val && (decide (name.size ≤ 49) && (name.data.toList.all chP && args.all (okX d)))))
set_option maxRecDepth 1000000 in
set_option maxHeartbeats 16000000 in
theorem storedExpr_any : ∀ (d : Nat) (e : RE) (lv : Int) (w : World), lv + d = 25 → 1 ≤ lv → exIs d w (· < w.heap.size) e →
  Calls Tryz.prog 195 #[.agg e.enc.toArray, .int .i64 lv] w fun x w' => x = .returned (.bool (okX d e)) ∧ Below w.heap.size w w' := by
 intro d
 induction d with
 | zero =>
  intro e lv w hlv _ _
  obtain ⟨op, it, ⟨vk, vi, vs⟩, nm, A, c, args⟩ := e
  show Calls Tryz.prog 195 #[.agg #[.int .i64 op, .int .i64 it, .int .i64 vk, .int .i64 vi, .string vs, .string nm, .slice A args.length c], .int .i64 lv] w _
  have hl : (24 : Int) < lv := by omega
  clear hlv
  go_enter Tryz.func195, Tryz.ntmps195
  go_wp2_with fail
  go_ret
  exact ⟨rfl, Below.of_alloc _⟩
 | succ d ih =>
  intro e lv w hlv hl1 he
  obtain ⟨op, it, ⟨vk, vi, vs⟩, nm, A, c, args⟩ := e
  obtain ⟨h1, h2, h3, h4⟩ := he
  have IH := Lib.hid ih
  obtain ⟨rs, hrs⟩ : ∃ r, r = okX (d + 1) (.mk op it ⟨vk, vi, vs⟩ nm A c args) := ⟨_, rfl⟩
  rw [← hrs]
  have HR : Hid (rs = (decide (1 ≤ op ∧ op ≤ 26) && (decide (-1125899906842624 ≤ it ∧ it ≤ 1125899906842624) && (validV ⟨vk, vi, vs⟩ && (decide (nm.size ≤ 49) && (nm.data.toList.all chP && args.all (okX d))))))) := Lib.hid hrs
  show Calls Tryz.prog 195 #[.agg #[.int .i64 op, .int .i64 it, .int .i64 vk, .int .i64 vi, .string vs, .string nm, .slice A args.length c], .int .i64 lv] w _
  obtain ⟨W, hW⟩ : ∃ W, W = w.alloc (.cells #[.int .i64 op, .int .i64 it, .int .i64 vk, .int .i64 vi, .string vs, .string nm, .slice A args.length c] 212) := ⟨_, rfl⟩
  have hbW : Below w.heap.size w W := by rw [hW]; exact Below.of_alloc _
  have hT : W.heap[w.heap.size]? = some (.cells #[.int .i64 op, .int .i64 it, .int .i64 vk, .int .i64 vi, .string vs, .string nm, .slice A args.length c] 212 (0, 0)) := by rw [hW]; exact heap_alloc_new _ _
  have hWs : w.heap.size < W.heap.size := by rw [hW]; simp
  have HBW := Lib.hid hbW
  have HT := Lib.hid hT
  have HWS := Lib.hid hWs
  have HA := Lib.hid h1
  have HA4 := Lib.hid h4
  have hl : ¬ (24 : Int) < lv := by omega
  have HLV := Lib.hid (And.intro hlv hl1)
  have K1 := within_any op 1 26 W
  have K2 := within_any it (-1125899906842624) 1125899906842624 W
  have K3 := validValue_any vk vi vs W h2.2.2
  obtain ⟨v1, hv1⟩ : ∃ bo, bo = decide (1 ≤ op ∧ op ≤ 26) := ⟨_, rfl⟩
  obtain ⟨v2, hv2⟩ : ∃ bo, bo = decide (-1125899906842624 ≤ it ∧ it ≤ 1125899906842624) := ⟨_, rfl⟩
  obtain ⟨v3, hv3⟩ : ∃ bo, bo = validV ⟨vk, vi, vs⟩ := ⟨_, rfl⟩
  rw [← hv1] at K1 HR
  rw [← hv2] at K2 HR
  rw [← hv3] at K3 HR
  have c0 : W.cell? ⟨w.heap.size, 0, none⟩ = some (.int .i64 op) := cell_of_row W _ 0 _ _ _ hT
  have c1 : W.cell? ⟨w.heap.size, 1, none⟩ = some (.int .i64 it) := cell_of_row W _ 1 _ _ _ hT
  have c2 : W.cell? ⟨w.heap.size, 2, none⟩ = some (.int .i64 vk) := cell_of_row W _ 2 _ _ _ hT
  have c3 : W.cell? ⟨w.heap.size, 3, none⟩ = some (.int .i64 vi) := cell_of_row W _ 3 _ _ _ hT
  have c4 : W.cell? ⟨w.heap.size, 4, none⟩ = some (.string vs) := cell_of_row W _ 4 _ _ _ hT
  have c5 : W.cell? ⟨w.heap.size, 5, none⟩ = some (.string nm) := cell_of_row W _ 5 _ _ _ hT
  have c6 : W.cell? ⟨w.heap.size, 6, none⟩ = some (.slice A args.length c) := cell_of_row W _ 6 _ _ _ hT
  clear hbW hT hWs hv1 hv2 hv3 h1 h2 h4 hrs hlv hl1 ih
  go_enter Tryz.func195, Tryz.ntmps195
  go_wp2_with fail
  rw [← hW]
  clear hW
  (with_reducible refine K1.mono ?_)
  rintro _ z1 ⟨rfl, hz⟩
  rw [hz]
  clear hz z1 K1
  cases v1
  case false =>
   go_wp2_with fail
   go_ret
   exact ⟨by rw [HR.out]; rfl, HBW.out⟩
  case true =>
   go_wp2_with fail
   (with_reducible refine K2.mono ?_)
   rintro _ z1 ⟨rfl, hz⟩
   rw [hz]
   clear hz z1 K2
   cases v2
   case false =>
    go_wp2_with fail
    go_ret
    exact ⟨by rw [HR.out]; rfl, HBW.out⟩
   case true =>
    go_wp2_with fail
    (with_reducible refine K3.mono ?_)
    rintro _ W3 ⟨rfl, hz⟩
    have hb3 : Below W.heap.size W W3 := by rw [← hz]; exact Below.of_alloc _
    have HB3 : Hid (Below w.heap.size w W3) := Lib.hid (HBW.out.trans (hb3.mono HBW.out.size))
    have HT3 := Lib.hid ((hb3.block _ HWS.out).trans HT.out)
    have HL3 : Hid (w.heap.size < W3.heap.size) := Lib.hid (by have := HWS.out; have := hb3.size; omega)
    clear hz hb3 K3 c0 c1 c2 c3 c4 c5 c6
    cases v3
    case false =>
     go_wp2_with fail
     go_ret
     exact ⟨by rw [HR.out]; rfl, HB3.out⟩
    case true =>
     have c0 : W3.cell? ⟨w.heap.size, 0, none⟩ = some (.int .i64 op) := cell_of_row W3 _ 0 _ _ _ HT3.out
     have c1 : W3.cell? ⟨w.heap.size, 1, none⟩ = some (.int .i64 it) := cell_of_row W3 _ 1 _ _ _ HT3.out
     have c2 : W3.cell? ⟨w.heap.size, 2, none⟩ = some (.int .i64 vk) := cell_of_row W3 _ 2 _ _ _ HT3.out
     have c3 : W3.cell? ⟨w.heap.size, 3, none⟩ = some (.int .i64 vi) := cell_of_row W3 _ 3 _ _ _ HT3.out
     have c4 : W3.cell? ⟨w.heap.size, 4, none⟩ = some (.string vs) := cell_of_row W3 _ 4 _ _ _ HT3.out
     have c5 : W3.cell? ⟨w.heap.size, 5, none⟩ = some (.string nm) := cell_of_row W3 _ 5 _ _ _ HT3.out
     have c6 : W3.cell? ⟨w.heap.size, 6, none⟩ = some (.slice A args.length c) := cell_of_row W3 _ 6 _ _ _ HT3.out
     by_cases hn : nm.size ≤ 49
     case neg =>
      have hni : (49 : Int) < (nm.size : Int) := by omega
      have HF : Hid (rs = false) := Lib.hid (by rw [HR.out]; simp [hn])
      go_wp2_with fail
      go_ret
      exact ⟨by rw [HF.out]; rfl, HB3.out⟩
     case pos =>
      have hni : ¬ (49 : Int) < (nm.size : Int) := by omega
      have HR2 : Hid (rs = (nm.data.toList.all chP && args.all (okX d))) := Lib.hid (by rw [HR.out]; simp [hn])
      obtain ⟨xb, Wc, hcv, hrd, hbc⟩ := conv_sb W3 nm (by omega)
      obtain ⟨nl, hnl⟩ : ∃ l, l = nm.data.toList := ⟨_, rfl⟩
      rw [← hnl] at hrd HR2
      obtain ⟨Ab, cb, rfl, m1, m2, m3⟩ := Rd.open_ hrd
      unfold maxLen at m2
      have HRD := Lib.hid hrd
      have HBC : Hid (Below w.heap.size w Wc) := Lib.hid (HB3.out.trans (hbc.mono HB3.out.size))
      have HTC := Lib.hid ((hbc.block _ HL3.out).trans HT3.out)
      clear hrd hbc m3 hnl hn
      go_wp2_with fail
      clear hcv c0 c1 c2 c3 c4 c5 c6
      go_loopw [39] (fun i wr => ∃ k : Nat, i = .int .i64 (k : Int) ∧ k ≤ nl.length ∧ Hid ((nl.take k).all chP = true) ∧ wr = Wc) (fun i _ => nl.length - (intOf i).toNat)
      case atStart => exact ⟨0, rfl, Nat.zero_le _, Lib.hid rfl, rfl⟩
      case round =>
       obtain ⟨k, rfl, hk, HG, hw⟩ := hrel
       rw [hw]
       clear hw
       by_cases hlt : k < nl.length
       case pos =>
        have hlt2 : (k : Int) < (nl.length : Int) := by omega
        obtain ⟨b, off, rfl, hF, g0⟩ := RdB.byte HRD.out hlt
        have hs := fun h => allP_snoc' (p := chP) hlt HG.out h
        have hno := allP_no (p := chP) hlt
        obtain ⟨ch, hch⟩ : ∃ c, c = nl[k] := ⟨_, rfl⟩
        rw [← hch] at g0 hno
        have hs2 : chP ch = true → (nl.take (k + 1)).all chP = true := fun h => hs (by rw [← hch]; exact h)
        have KW := within_any (ch.toNat : Int) 32 126 Wc
        rw [show decide (32 ≤ (ch.toNat : Int) ∧ (ch.toNat : Int) ≤ 126) = chP ch from rfl] at KW
        obtain ⟨v, hv⟩ : ∃ bo, bo = chP ch := ⟨_, rfl⟩
        rw [← hv] at KW hno hs2
        have HS := Lib.hid hs2
        have HNO := Lib.hid hno
        have hc256 := ch.toNat_lt
        clear hs hs2 hno hch hv hF
        go_wp2_with fail
        (with_reducible refine KW.mono ?_)
        rintro _ z1 ⟨rfl, hz⟩
        rw [hz]
        clear hz z1 KW
        cases v
        case false =>
         have HF : Hid (rs = false) := Lib.hid (by rw [HR2.out, HNO.out (by first | rfl | trivial)]; rfl)
         go_wp2_with fail
         go_ret
         exact ⟨by rw [HF.out]; rfl, HBC.out⟩
        case true =>
         have HN : Hid ((nl.take (k + 1)).all chP = true) := Lib.hid (HS.out (by first | rfl | trivial))
         go_wp2_with fail
         go_roundw
         case rel => exact ⟨k + 1, by go_num, hlt, HN, by first | trivial | rfl⟩
         case measure => simp [intOf]; omega
       case neg =>
        have hlt2 : ¬ (k : Int) < (nl.length : Int) := by omega
        have HR3 : Hid (rs = args.all (okX d)) := Lib.hid (by
         have h := HG.out
         rw [List.take_of_length_le (by omega)] at h
         rw [HR2.out, h]; rfl)
        have c6 : Wc.cell? ⟨w.heap.size, 6, none⟩ = some (.slice A args.length c) := cell_of_row Wc _ 6 _ _ _ HTC.out
        obtain ⟨A0, c0, hAc, n1, n2, n3⟩ := Rd.open_ (show Rd w _ 7 (.slice A args.length c) args.length (args.flatMap RE.enc) from HA.out)
        simp only [Value.slice.injEq] at hAc
        obtain ⟨rfl, -, rfl⟩ := hAc
        unfold maxLen at n2
        clear HG n3 hlt
        go_wp2_with fail
        clear c6 hlt2
        go_loopw [51] (fun i wr => ∃ j : Nat, i = .int .i64 (j : Int) ∧ j ≤ args.length ∧ Hid ((args.take j).all (okX d) = true) ∧ Hid (Below w.heap.size w wr)) (fun i _ => args.length - (intOf i).toNat)
        case atStart => exact ⟨0, rfl, Nat.zero_le _, Lib.hid rfl, HBC⟩
        case round =>
         obtain ⟨j, rfl, hj, HG, HB⟩ := hrel
         obtain ⟨wi, rfl⟩ : ∃ wi : World, wi = wr := ⟨_, rfl⟩
         by_cases hltj : j < args.length
         case neg =>
          have hlt3 : ¬ (j : Int) < (args.length : Int) := by omega
          have HE : Hid (rs = true) := Lib.hid (by
           have h := HG.out
           rw [List.take_of_length_le (by omega)] at h
           rw [HR3.out, h])
          go_wp2_with fail
          go_ret
          exact ⟨by rw [HE.out]; rfl, HB.out⟩
         case pos =>
          have hlt3 : (j : Int) < (args.length : Int) := by omega
          obtain ⟨b, off, rfl, hF, hcl⟩ := RdE.at_ (K := 7) (enc := RE.enc) RE.enc_length (by omega) (HA.out.below HB.out) hltj
          have hcx := hcl j hltj
          have hxi := HA4.out _ (List.getElem_mem hltj)
          have hs := fun h => allP_snoc' (p := okX d) hltj HG.out h
          have hno := allP_no (p := okX d) hltj
          obtain ⟨x, hx⟩ : ∃ x, x = args[j] := ⟨_, rfl⟩
          rw [← hx] at hcx hxi hno
          have hs2 : okX d x = true → (args.take (j + 1)).all (okX d) = true := fun h => hs (by rw [← hx]; exact h)
          have KX : ∀ V, Below w.heap.size w V → _ := fun V hV => IH.out x (lv + 1) V (by have := HLV.out; omega) (by have := HLV.out; omega) (exIs_below hV d x hxi)
          obtain ⟨v, hv⟩ : ∃ bo, bo = okX d x := ⟨_, rfl⟩
          rw [← hv] at KX hno hs2
          have HS := Lib.hid hs2
          have HNO := Lib.hid hno
          clear hs hs2 hno hx hv hF hcl
          obtain ⟨op2, it2, ⟨vk2, vi2, vs2⟩, nm2, A2, c2, args2⟩ := x
          have KX2 : ∀ V, Below w.heap.size w V → Calls Tryz.prog 195 #[.agg #[.int .i64 op2, .int .i64 it2, .int .i64 vk2, .int .i64 vi2, .string vs2, .string nm2, .slice A2 args2.length c2], .int .i64 (lv + 1)] V fun x w' => x = .returned (.bool v) ∧ Below V.heap.size V w' := KX
          have g0 : wi.cell? ⟨b, off + j * 7, none⟩ = some (.int .i64 op2) := hcx 0 _ (by decide) rfl
          have g1 : wi.cell? ⟨b, off + j * 7 + 1, none⟩ = some (.int .i64 it2) := hcx 1 _ (by decide) rfl
          have g2 : wi.cell? ⟨b, off + j * 7 + 2, none⟩ = some (.int .i64 vk2) := hcx 2 _ (by decide) rfl
          have g3 : wi.cell? ⟨b, off + j * 7 + 3, none⟩ = some (.int .i64 vi2) := hcx 3 _ (by decide) rfl
          have g4 : wi.cell? ⟨b, off + j * 7 + 4, none⟩ = some (.string vs2) := hcx 4 _ (by decide) rfl
          have g5 : wi.cell? ⟨b, off + j * 7 + 5, none⟩ = some (.string nm2) := hcx 5 _ (by decide) rfl
          have g6 : wi.cell? ⟨b, off + j * 7 + 6, none⟩ = some (.slice A2 args2.length c2) := hcx 6 _ (by decide) rfl
          obtain ⟨W1, hW1⟩ : ∃ W1, W1 = wi.alloc (.cells #[.int .i64 op2, .int .i64 it2, .int .i64 vk2, .int .i64 vi2, .string vs2, .string nm2, .slice A2 args2.length c2] 212) := ⟨_, rfl⟩
          have hb1 : Below wi.heap.size wi W1 := by rw [hW1]; exact Below.of_alloc _
          have HB1 : Hid (Below w.heap.size w W1) := Lib.hid (HB.out.trans (hb1.mono HB.out.size))
          have KV := KX2 W1 HB1.out
          have hlv1 : lv + 1 ≤ 9223372036854775807 := by have := HLV.out; omega
          have hlv2 : -9223372036854775808 ≤ lv + 1 := by have := HLV.out; omega
          clear hcx hxi KX KX2 hb1
          go_wp2_with fail
          rw [← hW1]
          clear hW1 g0 g1 g2 g3 g4 g5 g6
          (with_reducible refine KV.mono ?_)
          rintro _ w2 ⟨rfl, hb2⟩
          have HB2 : Hid (Below w.heap.size w w2) := Lib.hid (HB1.out.trans (hb2.mono HB1.out.size))
          clear hb2 KV
          cases v
          case false =>
           have HF : Hid (rs = false) := Lib.hid (by rw [HR3.out, HNO.out (by first | rfl | trivial)])
           go_wp2_with fail
           go_ret
           exact ⟨by rw [HF.out]; rfl, HB2.out⟩
          case true =>
           have HN : Hid ((args.take (j + 1)).all (okX d) = true) := Lib.hid (HS.out (by first | rfl | trivial))
           go_wp2_with fail
           go_roundw
           case rel => exact ⟨j + 1, by go_num, hltj, HN, HB2⟩
           case measure => simp [intOf]; omega
end Go.Proofs.YtbfdegkickjbpaaGreat
