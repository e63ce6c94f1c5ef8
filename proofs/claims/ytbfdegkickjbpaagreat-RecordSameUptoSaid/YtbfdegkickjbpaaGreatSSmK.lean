/-
 SmK
-/
import Derived.Test.YtbfdegkickjbpaaGreatSSmF
import Derived.Test.YtbfdegkickjbpaaGreatSSmI
import Derived.Test.YtbfdegkickjbpaaGreatSSmJ
import Derived.Test.YtbfdegkickjbpaaGreatSRlA
namespace Go.Proofs.YtbfdegkickjbpaaGreat
open Go.RowKit Go.Lib Go.IntWalk Go.Sort Go.Shelf
set_option maxRecDepth 1000000 in
set_option maxHeartbeats 32000000 in
theorem state_any (c : RSt) (w : World) (hc : c.is w (· < w.heap.size)) (hlm : c.lim w) : Calls Tryz.prog 20 #[.agg c.enc.toArray] w (BoolO w) := by
 have HI0 := Lib.hid hc
 have HL0 := Lib.hid hlm
 obtain ⟨stx, stm, swl, snx, seA, seC, sents, ssA, ssC, sstms, stA, stC, stabs, spA, spC, spla, sqA, sqC, spol, shA, shC, shor⟩ := c
 have HI : Hid (RSt.is w (· < w.heap.size) ⟨stx, stm, swl, snx, seA, seC, sents, ssA, ssC, sstms, stA, stC, stabs, spA, spC, spla, sqA, sqC, spol, shA, shC, shor⟩) := HI0
 have HLM : Hid (RSt.lim w ⟨stx, stm, swl, snx, seA, seC, sents, ssA, ssC, sstms, stA, stC, stabs, spA, spC, spla, sqA, sqC, spol, shA, shC, shor⟩) := HL0
 have n1 := hlm.ents
 have n2 := hlm.stms
 have n3 := hlm.tabs
 have n4 := hlm.pla
 have n5 := hlm.pol
 have n6 := hlm.hor
 simp only at n1 n2 n3 n4 n5 n6
 show Calls Tryz.prog 20 #[.agg #[.int .i64 stx, .int .i64 stm, .int .i64 swl, .int .i64 snx, .slice seA sents.length seC, .slice ssA sstms.length ssC, .slice stA stabs.length stC, .slice spA spla.length spC, .slice sqA spol.length sqC, .slice shA shor.length shC]] w _
 clear hc hlm HI0 HL0
 obtain ⟨W, hW⟩ : ∃ W, W = w.alloc (.cells #[.int .i64 stx, .int .i64 stm, .int .i64 swl, .int .i64 snx, .slice seA sents.length seC, .slice ssA sstms.length ssC, .slice stA stabs.length stC, .slice spA spla.length spC, .slice sqA spol.length sqC, .slice shA shor.length shC] 47) := ⟨_, rfl⟩
 have HBW : Hid (Below w.heap.size w W) := Lib.hid (by rw [hW]; exact Below.of_alloc _)
 have HT : Hid (W.heap[w.heap.size]? = some (.cells #[.int .i64 stx, .int .i64 stm, .int .i64 swl, .int .i64 snx, .slice seA sents.length seC, .slice ssA sstms.length ssC, .slice stA stabs.length stC, .slice spA spla.length spC, .slice sqA spol.length sqC, .slice shA shor.length shC] 47 (0, 0))) := Lib.hid (by rw [hW]; exact heap_alloc_new _ _)
 have c5 : W.cell? ⟨w.heap.size, 5, none⟩ = some (.slice ssA sstms.length ssC) := cell_of_row W _ 5 _ _ _ HT.out
 have c6 : W.cell? ⟨w.heap.size, 6, none⟩ = some (.slice stA stabs.length stC) := cell_of_row W _ 6 _ _ _ HT.out
 have c7 : W.cell? ⟨w.heap.size, 7, none⟩ = some (.slice spA spla.length spC) := cell_of_row W _ 7 _ _ _ HT.out
 have c8 : W.cell? ⟨w.heap.size, 8, none⟩ = some (.slice sqA spol.length sqC) := cell_of_row W _ 8 _ _ _ HT.out
 have c9 : W.cell? ⟨w.heap.size, 9, none⟩ = some (.slice shA shor.length shC) := cell_of_row W _ 9 _ _ _ HT.out
 have i1 : (sstms.length : Int) + (stabs.length : Int) ≤ 9223372036854775807 := by omega
 have i2 : (sstms.length : Int) + (stabs.length : Int) + (spla.length : Int) ≤ 9223372036854775807 := by omega
 have i3 : (sstms.length : Int) + (stabs.length : Int) + (spla.length : Int) + (spol.length : Int) ≤ 9223372036854775807 := by omega
 have i4 : (sstms.length : Int) + (stabs.length : Int) + (spla.length : Int) + (spol.length : Int) + (shor.length : Int) ≤ 9223372036854775807 := by omega
 go_enter Tryz.func20, Tryz.ntmps20
 go_wp2_with fail
 rw [← hW]
 clear hW i1 i2 i3 i4 c5 c6 c7 c8 c9
 go_loopw [3, 4] (fun n i wr => ∃ (m : Int) (k : Nat), n = .int .i64 m ∧ i = .int .i64 (k : Int) ∧ k ≤ stabs.length ∧ 0 ≤ m ∧ m ≤ 100000000 ∧ Hid (Below w.heap.size w wr) ∧ Hid (wr.heap[w.heap.size]? = some (.cells #[.int .i64 stx, .int .i64 stm, .int .i64 swl, .int .i64 snx, .slice seA sents.length seC, .slice ssA sstms.length ssC, .slice stA stabs.length stC, .slice spA spla.length spC, .slice sqA spol.length sqC, .slice shA shor.length shC] 47 (0, 0)))) (fun _ i _ => stabs.length - (intOf i).toNat)
 case atStart => exact ⟨_, 0, rfl, rfl, Nat.zero_le _, by omega, by omega, HBW, HT⟩
 case round =>
  obtain ⟨m, k, rfl, rfl, hk, hm0, hm1, HB, HTB⟩ := hrel
  obtain ⟨wi, rfl⟩ : ∃ wi : World, wi = wr := ⟨_, rfl⟩
  have c6 : wi.cell? ⟨w.heap.size, 6, none⟩ = some (.slice stA stabs.length stC) := cell_of_row wi _ 6 _ _ _ HTB.out
  have c4 : wi.cell? ⟨w.heap.size, 4, none⟩ = some (.slice seA sents.length seC) := cell_of_row wi _ 4 _ _ _ HTB.out
  have KE := entries_any (.slice seA sents.length seC) sents wi (HI.out.ents.below HB.out) (fun x hx => ((HI.out.entI x hx).below HB.out).create) (fun x hx e he => ⟨(HLM.out.exps x hx e he).1.below HB.out, (HLM.out.exps x hx e he).2⟩)
  by_cases hlt : k < stabs.length
  case neg =>
   have hn : ¬ (k : Int) < (stabs.length : Int) := by omega
   by_cases h9 : m ≤ 300
   case neg =>
    go_wp2_with fail
    go_ret
    exact ⟨_, rfl, HB.out⟩
   case pos =>
    go_wp2_with fail
    (with_reducible refine KE.mono ?_)
    rintro _ w2 ⟨r, rfl, hb2⟩
    have HB2 : Hid (Below w.heap.size w w2) := Lib.hid (HB.out.trans (hb2.mono HB.out.size))
    clear hb2 KE
    go_wp2_with fail
    go_ret
    exact ⟨_, rfl, HB2.out⟩
  case pos =>
   have hlt2 : (k : Int) < (stabs.length : Int) := by omega
   by_cases h300 : m ≤ 300
   case neg =>
    go_wp2_with fail
    go_ret
    exact ⟨_, rfl, HB.out⟩
   case pos =>
    clear KE c4
    obtain ⟨b, off, rfl, hF, hcl⟩ := RdE.at_ (K := 2) (enc := RTv.enc) (fun _ => rfl) (by omega) (HI.out.tabs.below HB.out) hlt
    have hcx0 := hcl k hlt
    have hmem := List.getElem_mem hlt
    obtain ⟨x, hx⟩ : ∃ z, z = stabs[k] := ⟨_, rfl⟩
    rw [← hx] at hcx0 hmem
    have hdi := HI.out.tabI _ hmem
    have hdr := HLM.out.rows _ hmem
    clear hcl hF hx hmem
    obtain ⟨tb, vA, vC, vers⟩ := x
    simp only at hdr
    have HDI : Hid (RdVs w (· < w.heap.size) (.slice vA vers.length vC) vers) := Lib.hid hdi
    have HDR := Lib.hid hdr
    have hf1 := hdr.1
    have g1 : wi.cell? ⟨b, off + k * 2 + 1, none⟩ = some (.slice vA vers.length vC) := hcx0 1 _ (by decide) rfl
    clear hcx0 hdi hdr
    have i2 : m + (vers.length : Int) ≤ 9223372036854775807 := by omega
    have i3 : -9223372036854775808 ≤ m + (vers.length : Int) := by omega
    have HLK := Lib.hid hlt
    have G1 := Lib.hid g1
    have HM := Lib.hid hm0
    have h300' := h300
    go_wp2_with fail
    go_loopw [3, 5] (fun n i wr => ∃ (m : Int) (j : Nat), n = .int .i64 m ∧ i = .int .i64 (j : Int) ∧ j ≤ vers.length ∧ 0 ≤ m ∧ m ≤ 3000000 ∧ wr = wi) (fun _ i _ => vers.length - (intOf i).toNat)
    case atStart => exact ⟨_, 0, rfl, rfl, Nat.zero_le _, by omega, by omega, rfl⟩
    case round =>
     obtain ⟨m', j, rfl, rfl, hj, hm0', hm1', hw⟩ := hrel
     rw [hw]
     clear hw hlt g1 i2 i3 h300 h300'
     have g1 : wi.cell? ⟨b, off + k * 2 + 1, none⟩ = some (.slice vA vers.length vC) := G1.out
     by_cases hlt : j < vers.length
     case neg =>
      have hn : ¬ (j : Int) < (vers.length : Int) := by omega
      go_wp2_with fail
      go_roundw
      case rel => exact ⟨m', k + 1, by go_num, by go_num, HLK.out, hm0', by omega, HB, HTB⟩
      case measure => have := HLK.out; simp [intOf]; omega
     case pos =>
      have hlt3 : (j : Int) < (vers.length : Int) := by omega
      by_cases h300 : m' ≤ 300
      case neg =>
       go_wp2_with fail
       go_roundw
       case rel => exact ⟨m', k + 1, by go_num, by go_num, HLK.out, hm0', by omega, HB, HTB⟩
       case measure => have := HLK.out; simp [intOf]; omega
      case pos =>
       obtain ⟨b3, off3, rfl, hF, hcl, hxv⟩ := RdVs.at_ (HDI.out.below HB.out) hlt
       have hyr := HDR.out.2 _ (List.getElem_mem hlt)
       obtain ⟨y, hy⟩ : ∃ z, z = vers[j] := ⟨_, rfl⟩
       rw [← hy] at hcl hxv hyr
       clear hy
       obtain ⟨⟨y1, y2, yA, yn, yc, y3, y4, y5, y6, y7, y8⟩, y⟩ := y
       simp only at hcl hxv hyr
       have hrow := hxv.row
       obtain ⟨r1, r2, r3, r4, r5⟩ := Rd.open_ (show Rd wi _ _ _ _ _ from hrow)
       have g9 : wi.cell? ⟨b3, off3 + j * 9 + 2, none⟩ = some (.slice yA yn yc) := hcl 2 _ (by decide) rfl
       have hfn : yn = y.row.length := by injection r3
       clear hcl hF hxv hrow r4 r5
       have i1 : m' + (yn : Int) ≤ 9223372036854775807 := by omega
       have i2 : -9223372036854775808 ≤ m' + (yn : Int) := by omega
       go_wp2_with fail
       go_roundw
       case rel => exact ⟨_, j + 1, rfl, by go_num, hlt, by omega, by omega, by first | rfl | trivial⟩
       case measure => simp [intOf]; omega
theorem boxes4 (w : World) (a b c d : Obj) : ((((w.alloc a).alloc b).alloc c).alloc d).heap[w.heap.size]? = some a ∧ ((((w.alloc a).alloc b).alloc c).alloc d).heap[w.heap.size + 1]? = some b ∧ ((((w.alloc a).alloc b).alloc c).alloc d).heap[w.heap.size + 2]? = some c ∧ ((((w.alloc a).alloc b).alloc c).alloc d).heap[w.heap.size + 3]? = some d := by
 refine ⟨?_, ?_, ?_, ?_⟩
 ·rw [Below.heap_alloc _ _ _ (by simp <;> omega), Below.heap_alloc _ _ _ (by simp <;> omega), Below.heap_alloc _ _ _ (by simp)]; exact heap_alloc_new w a
 ·rw [Below.heap_alloc _ _ _ (by simp <;> omega), Below.heap_alloc _ _ _ (by simp)]; have h := heap_alloc_new (w.alloc a) b; simpa using h
 ·rw [Below.heap_alloc _ _ _ (by simp)]; have h := heap_alloc_new ((w.alloc a).alloc b) c; simpa using h
 ·have h := heap_alloc_new (((w.alloc a).alloc b).alloc c) d; simpa using h
set_option maxRecDepth 1000000 in
set_option maxHeartbeats 32000000 in
theorem lawRSame_any (a b : RCm) (s t : RSt) (w : World) (ha : a.is w (· < w.heap.size)) (hal : a.lim w) (hb : b.is w (· < w.heap.size)) (hbl : b.lim w) (hs : s.is w (· < w.heap.size)) (hsl : s.lim w) (ht : t.is w (· < w.heap.size)) (htl : t.lim w) :
  Calls Tryz.prog 7 #[.agg a.enc.toArray, .agg b.enc.toArray, .agg s.enc.toArray, .agg t.enc.toArray] w fun e w' => e = .returned (.bool true) ∧ Below w.heap.size w w' := by
 have KA := fun (V : World) (hV : Below w.heap.size w V) => small_any a V (ha.below hV) (hal.below hV)
 have KB := fun (V : World) (hV : Below w.heap.size w V) => small_any b V (hb.below hV) (hbl.below hV)
 have KS := fun (V : World) (hV : Below w.heap.size w V) => state_any s V (hs.below hV) (hsl.below hV)
 have KT := fun (V : World) (hV : Below w.heap.size w V) => state_any t V (ht.below hV) (htl.below hV)
 have M1 := fun (V : World) (hV : Below w.heap.size w V) => recSame_any a b V (ha.below hV) (hb.below hV) (fun n hn e he => ((hal.exps n hn e he).1.below hV)) (fun n hn e he => ((hbl.exps n hn e he).1.below hV))
 have M2 := fun (V : World) (hV : Below w.heap.size w V) => refSame_any a b V (ha.below hV) (hb.below hV) (fun n hn e he => ((hal.exps n hn e he).1.below hV)) (fun n hn e he => ((hbl.exps n hn e he).1.below hV))
 have M3 := fun (V : World) (hV : Below w.heap.size w V) => recSame_any a a V (ha.below hV) (ha.below hV) (fun n hn e he => ((hal.exps n hn e he).1.below hV)) (fun n hn e he => ((hal.exps n hn e he).1.below hV))
 have M4 := fun (V : World) (hV : Below w.heap.size w V) => recSameState_any s t V (hs.below hV) (ht.below hV) (fun n hn e he => ((hsl.exps n hn e he).1.below hV)) (fun n hn e he => ((htl.exps n hn e he).1.below hV))
 have M5 := fun (V : World) (hV : Below w.heap.size w V) => refSameState_any s t V (hs.below hV) (ht.below hV) (fun n hn e he => ((hsl.exps n hn e he).1.below hV)) (fun n hn e he => ((htl.exps n hn e he).1.below hV))
 have M6 := fun (V : World) (hV : Below w.heap.size w V) => recSameState_any t t V (ht.below hV) (ht.below hV) (fun n hn e he => ((htl.exps n hn e he).1.below hV)) (fun n hn e he => ((htl.exps n hn e he).1.below hV))
 obtain ⟨v1, hv1⟩ : ∃ e, e = sCm a b := ⟨_, rfl⟩
 obtain ⟨v2, hv2⟩ : ∃ e, e = sSt s t := ⟨_, rfl⟩
 simp only [← hv1] at M1 M2
 simp only [← hv2] at M4 M5
 simp only [sCm_refl] at M3
 simp only [sSt_refl] at M6
 clear ha hal hb hbl hs hsl ht htl hv1 hv2
 obtain ⟨xtx, xtm, xwl, xfi, xeA, xeC, xents, xdA, xdC, xdels, xpA, xpC, xpla, xrA, xrC, xrel, xqA, xqC, xpol, xhA, xhC, xhor⟩ := a
 obtain ⟨ytx, ytm, ywl, yfi, yeA, yeC, yents, ydA, ydC, ydels, ypA, ypC, ypla, yrA, yrC, yrel, yqA, yqC, ypol, yhA, yhC, yhor⟩ := b
 obtain ⟨stx, stm, swl, snx, seA, seC, sents, ssA, ssC, sstms, stA, stC, stabs, spA, spC, spla, sqA, sqC, spol, shA, shC, shor⟩ := s
 obtain ⟨ttx, ttm, twl, tnx, teA, teC, tents, tsA, tsC, tstms, ttA, ttC, ttabs, tpA, tpC, tpla, tqA, tqC, tpol, thA, thC, thor⟩ := t
 have KA : Hid (∀ (V : World), Below w.heap.size w V → Calls Tryz.prog 10 #[.agg #[.int .i64 xtx, .int .i64 xtm, .int .i64 xwl, .int .i64 xfi, .slice xeA xents.length xeC, .slice xdA xdels.length xdC, .slice xpA xpla.length xpC, .slice xrA xrel.length xrC, .slice xqA xpol.length xqC, .slice xhA xhor.length xhC]] V (BoolO V)) := Lib.hid KA
 have KB : Hid (∀ (V : World), Below w.heap.size w V → Calls Tryz.prog 10 #[.agg #[.int .i64 ytx, .int .i64 ytm, .int .i64 ywl, .int .i64 yfi, .slice yeA yents.length yeC, .slice ydA ydels.length ydC, .slice ypA ypla.length ypC, .slice yrA yrel.length yrC, .slice yqA ypol.length yqC, .slice yhA yhor.length yhC]] V (BoolO V)) := Lib.hid KB
 have KS : Hid (∀ (V : World), Below w.heap.size w V → Calls Tryz.prog 20 #[.agg #[.int .i64 stx, .int .i64 stm, .int .i64 swl, .int .i64 snx, .slice seA sents.length seC, .slice ssA sstms.length ssC, .slice stA stabs.length stC, .slice spA spla.length spC, .slice sqA spol.length sqC, .slice shA shor.length shC]] V (BoolO V)) := Lib.hid KS
 have KT : Hid (∀ (V : World), Below w.heap.size w V → Calls Tryz.prog 20 #[.agg #[.int .i64 ttx, .int .i64 ttm, .int .i64 twl, .int .i64 tnx, .slice teA tents.length teC, .slice tsA tstms.length tsC, .slice ttA ttabs.length ttC, .slice tpA tpla.length tpC, .slice tqA tpol.length tqC, .slice thA thor.length thC]] V (BoolO V)) := Lib.hid KT
 have M1 : Hid (∀ (V : World), Below w.heap.size w V → Calls Tryz.prog 21 #[.agg #[.int .i64 xtx, .int .i64 xtm, .int .i64 xwl, .int .i64 xfi, .slice xeA xents.length xeC, .slice xdA xdels.length xdC, .slice xpA xpla.length xpC, .slice xrA xrel.length xrC, .slice xqA xpol.length xqC, .slice xhA xhor.length xhC], .agg #[.int .i64 ytx, .int .i64 ytm, .int .i64 ywl, .int .i64 yfi, .slice yeA yents.length yeC, .slice ydA ydels.length ydC, .slice ypA ypla.length ypC, .slice yrA yrel.length yrC, .slice yqA ypol.length yqC, .slice yhA yhor.length yhC]] V (fun e w' => e = .returned (.bool v1) ∧ Below V.heap.size V w')) := Lib.hid M1
 have M2 : Hid (∀ (V : World), Below w.heap.size w V → Calls Tryz.prog 19 #[.agg #[.int .i64 xtx, .int .i64 xtm, .int .i64 xwl, .int .i64 xfi, .slice xeA xents.length xeC, .slice xdA xdels.length xdC, .slice xpA xpla.length xpC, .slice xrA xrel.length xrC, .slice xqA xpol.length xqC, .slice xhA xhor.length xhC], .agg #[.int .i64 ytx, .int .i64 ytm, .int .i64 ywl, .int .i64 yfi, .slice yeA yents.length yeC, .slice ydA ydels.length ydC, .slice ypA ypla.length ypC, .slice yrA yrel.length yrC, .slice yqA ypol.length yqC, .slice yhA yhor.length yhC]] V (fun e w' => e = .returned (.bool v1) ∧ Below V.heap.size V w')) := Lib.hid M2
 have M3 : Hid (∀ (V : World), Below w.heap.size w V → Calls Tryz.prog 21 #[.agg #[.int .i64 xtx, .int .i64 xtm, .int .i64 xwl, .int .i64 xfi, .slice xeA xents.length xeC, .slice xdA xdels.length xdC, .slice xpA xpla.length xpC, .slice xrA xrel.length xrC, .slice xqA xpol.length xqC, .slice xhA xhor.length xhC], .agg #[.int .i64 xtx, .int .i64 xtm, .int .i64 xwl, .int .i64 xfi, .slice xeA xents.length xeC, .slice xdA xdels.length xdC, .slice xpA xpla.length xpC, .slice xrA xrel.length xrC, .slice xqA xpol.length xqC, .slice xhA xhor.length xhC]] V (fun e w' => e = .returned (.bool true) ∧ Below V.heap.size V w')) := Lib.hid M3
 have M4 : Hid (∀ (V : World), Below w.heap.size w V → Calls Tryz.prog 22 #[.agg #[.int .i64 stx, .int .i64 stm, .int .i64 swl, .int .i64 snx, .slice seA sents.length seC, .slice ssA sstms.length ssC, .slice stA stabs.length stC, .slice spA spla.length spC, .slice sqA spol.length sqC, .slice shA shor.length shC], .agg #[.int .i64 ttx, .int .i64 ttm, .int .i64 twl, .int .i64 tnx, .slice teA tents.length teC, .slice tsA tstms.length tsC, .slice ttA ttabs.length ttC, .slice tpA tpla.length tpC, .slice tqA tpol.length tqC, .slice thA thor.length thC]] V (fun e w' => e = .returned (.bool v2) ∧ Below V.heap.size V w')) := Lib.hid M4
 have M5 : Hid (∀ (V : World), Below w.heap.size w V → Calls Tryz.prog 23 #[.agg #[.int .i64 stx, .int .i64 stm, .int .i64 swl, .int .i64 snx, .slice seA sents.length seC, .slice ssA sstms.length ssC, .slice stA stabs.length stC, .slice spA spla.length spC, .slice sqA spol.length sqC, .slice shA shor.length shC], .agg #[.int .i64 ttx, .int .i64 ttm, .int .i64 twl, .int .i64 tnx, .slice teA tents.length teC, .slice tsA tstms.length tsC, .slice ttA ttabs.length ttC, .slice tpA tpla.length tpC, .slice tqA tpol.length tqC, .slice thA thor.length thC]] V (fun e w' => e = .returned (.bool v2) ∧ Below V.heap.size V w')) := Lib.hid M5
 have M6 : Hid (∀ (V : World), Below w.heap.size w V → Calls Tryz.prog 22 #[.agg #[.int .i64 ttx, .int .i64 ttm, .int .i64 twl, .int .i64 tnx, .slice teA tents.length teC, .slice tsA tstms.length tsC, .slice ttA ttabs.length ttC, .slice tpA tpla.length tpC, .slice tqA tpol.length tqC, .slice thA thor.length thC], .agg #[.int .i64 ttx, .int .i64 ttm, .int .i64 twl, .int .i64 tnx, .slice teA tents.length teC, .slice tsA tstms.length tsC, .slice ttA ttabs.length ttC, .slice tpA tpla.length tpC, .slice tqA tpol.length tqC, .slice thA thor.length thC]] V (fun e w' => e = .returned (.bool true) ∧ Below V.heap.size V w')) := Lib.hid M6
 show Calls Tryz.prog 7 #[.agg #[.int .i64 xtx, .int .i64 xtm, .int .i64 xwl, .int .i64 xfi, .slice xeA xents.length xeC, .slice xdA xdels.length xdC, .slice xpA xpla.length xpC, .slice xrA xrel.length xrC, .slice xqA xpol.length xqC, .slice xhA xhor.length xhC], .agg #[.int .i64 ytx, .int .i64 ytm, .int .i64 ywl, .int .i64 yfi, .slice yeA yents.length yeC, .slice ydA ydels.length ydC, .slice ypA ypla.length ypC, .slice yrA yrel.length yrC, .slice yqA ypol.length yqC, .slice yhA yhor.length yhC], .agg #[.int .i64 stx, .int .i64 stm, .int .i64 swl, .int .i64 snx, .slice seA sents.length seC, .slice ssA sstms.length ssC, .slice stA stabs.length stC, .slice spA spla.length spC, .slice sqA spol.length sqC, .slice shA shor.length shC], .agg #[.int .i64 ttx, .int .i64 ttm, .int .i64 twl, .int .i64 tnx, .slice teA tents.length teC, .slice tsA tstms.length tsC, .slice ttA ttabs.length ttC, .slice tpA tpla.length tpC, .slice tqA tpol.length tqC, .slice thA thor.length thC]] w _
 obtain ⟨W, hW⟩ : ∃ W, W = (((w.alloc (.cells #[.int .i64 xtx, .int .i64 xtm, .int .i64 xwl, .int .i64 xfi, .slice xeA xents.length xeC, .slice xdA xdels.length xdC, .slice xpA xpla.length xpC, .slice xrA xrel.length xrC, .slice xqA xpol.length xqC, .slice xhA xhor.length xhC] 29)).alloc (.cells #[.int .i64 ytx, .int .i64 ytm, .int .i64 ywl, .int .i64 yfi, .slice yeA yents.length yeC, .slice ydA ydels.length ydC, .slice ypA ypla.length ypC, .slice yrA yrel.length yrC, .slice yqA ypol.length yqC, .slice yhA yhor.length yhC] 29)).alloc (.cells #[.int .i64 stx, .int .i64 stm, .int .i64 swl, .int .i64 snx, .slice seA sents.length seC, .slice ssA sstms.length ssC, .slice stA stabs.length stC, .slice spA spla.length spC, .slice sqA spol.length sqC, .slice shA shor.length shC] 47)).alloc (.cells #[.int .i64 ttx, .int .i64 ttm, .int .i64 twl, .int .i64 tnx, .slice teA tents.length teC, .slice tsA tstms.length tsC, .slice ttA ttabs.length ttC, .slice tpA tpla.length tpC, .slice tqA tpol.length tqC, .slice thA thor.length thC] 47) := ⟨_, rfl⟩
 have hbW : Below w.heap.size w W := by rw [hW]; exact (((Below.of_alloc _).alloc (by simp) _).alloc (by simp; omega) _).alloc (by simp; omega) _
 have HBW := Lib.hid hbW
 have hWs : W.heap.size = w.heap.size + 4 := by rw [hW]; simp
 have b0 : W.heap[w.heap.size]? = some (.cells #[.int .i64 xtx, .int .i64 xtm, .int .i64 xwl, .int .i64 xfi, .slice xeA xents.length xeC, .slice xdA xdels.length xdC, .slice xpA xpla.length xpC, .slice xrA xrel.length xrC, .slice xqA xpol.length xqC, .slice xhA xhor.length xhC] 29 (0, 0)) := by rw [hW]; exact (boxes4 w _ _ _ _).1
 have F0 : Hid (∀ V, Below W.heap.size W V → V.heap[w.heap.size]? = some (.cells #[.int .i64 xtx, .int .i64 xtm, .int .i64 xwl, .int .i64 xfi, .slice xeA xents.length xeC, .slice xdA xdels.length xdC, .slice xpA xpla.length xpC, .slice xrA xrel.length xrC, .slice xqA xpol.length xqC, .slice xhA xhor.length xhC] 29 (0, 0))) := Lib.hid (fun V hV => (hV.block _ (by omega)).trans b0)
 have b1 : W.heap[w.heap.size + 1]? = some (.cells #[.int .i64 ytx, .int .i64 ytm, .int .i64 ywl, .int .i64 yfi, .slice yeA yents.length yeC, .slice ydA ydels.length ydC, .slice ypA ypla.length ypC, .slice yrA yrel.length yrC, .slice yqA ypol.length yqC, .slice yhA yhor.length yhC] 29 (0, 0)) := by rw [hW]; exact (boxes4 w _ _ _ _).2.1
 have F1 : Hid (∀ V, Below W.heap.size W V → V.heap[w.heap.size + 1]? = some (.cells #[.int .i64 ytx, .int .i64 ytm, .int .i64 ywl, .int .i64 yfi, .slice yeA yents.length yeC, .slice ydA ydels.length ydC, .slice ypA ypla.length ypC, .slice yrA yrel.length yrC, .slice yqA ypol.length yqC, .slice yhA yhor.length yhC] 29 (0, 0))) := Lib.hid (fun V hV => (hV.block _ (by omega)).trans b1)
 have b2 : W.heap[w.heap.size + 2]? = some (.cells #[.int .i64 stx, .int .i64 stm, .int .i64 swl, .int .i64 snx, .slice seA sents.length seC, .slice ssA sstms.length ssC, .slice stA stabs.length stC, .slice spA spla.length spC, .slice sqA spol.length sqC, .slice shA shor.length shC] 47 (0, 0)) := by rw [hW]; exact (boxes4 w _ _ _ _).2.2.1
 have F2 : Hid (∀ V, Below W.heap.size W V → V.heap[w.heap.size + 2]? = some (.cells #[.int .i64 stx, .int .i64 stm, .int .i64 swl, .int .i64 snx, .slice seA sents.length seC, .slice ssA sstms.length ssC, .slice stA stabs.length stC, .slice spA spla.length spC, .slice sqA spol.length sqC, .slice shA shor.length shC] 47 (0, 0))) := Lib.hid (fun V hV => (hV.block _ (by omega)).trans b2)
 have b3 : W.heap[w.heap.size + 3]? = some (.cells #[.int .i64 ttx, .int .i64 ttm, .int .i64 twl, .int .i64 tnx, .slice teA tents.length teC, .slice tsA tstms.length tsC, .slice ttA ttabs.length ttC, .slice tpA tpla.length tpC, .slice tqA tpol.length tqC, .slice thA thor.length thC] 47 (0, 0)) := by rw [hW]; exact (boxes4 w _ _ _ _).2.2.2
 have F3 : Hid (∀ V, Below W.heap.size W V → V.heap[w.heap.size + 3]? = some (.cells #[.int .i64 ttx, .int .i64 ttm, .int .i64 twl, .int .i64 tnx, .slice teA tents.length teC, .slice tsA tstms.length tsC, .slice ttA ttabs.length ttC, .slice tpA tpla.length tpC, .slice tqA tpol.length tqC, .slice thA thor.length thC] 47 (0, 0))) := Lib.hid (fun V hV => (hV.block _ (by omega)).trans b3)
 have HC0 : Hid (Below W.heap.size W W) := Lib.hid (Below.refl _ _)
 have HW := Lib.hid hW
 clear hbW hWs hW b0 b1 b2 b3
 have c0 : W.cell? ⟨w.heap.size, 0, none⟩ = some (.int .i64 xtx) := cell_of_row W _ 0 _ _ _ (F0.out _ HC0.out)
 have c1 : W.cell? ⟨w.heap.size, 1, none⟩ = some (.int .i64 xtm) := cell_of_row W _ 1 _ _ _ (F0.out _ HC0.out)
 have c2 : W.cell? ⟨w.heap.size, 2, none⟩ = some (.int .i64 xwl) := cell_of_row W _ 2 _ _ _ (F0.out _ HC0.out)
 have c3 : W.cell? ⟨w.heap.size, 3, none⟩ = some (.int .i64 xfi) := cell_of_row W _ 3 _ _ _ (F0.out _ HC0.out)
 have c4 : W.cell? ⟨w.heap.size, 4, none⟩ = some (.slice xeA xents.length xeC) := cell_of_row W _ 4 _ _ _ (F0.out _ HC0.out)
 have c5 : W.cell? ⟨w.heap.size, 5, none⟩ = some (.slice xdA xdels.length xdC) := cell_of_row W _ 5 _ _ _ (F0.out _ HC0.out)
 have c6 : W.cell? ⟨w.heap.size, 6, none⟩ = some (.slice xpA xpla.length xpC) := cell_of_row W _ 6 _ _ _ (F0.out _ HC0.out)
 have c7 : W.cell? ⟨w.heap.size, 7, none⟩ = some (.slice xrA xrel.length xrC) := cell_of_row W _ 7 _ _ _ (F0.out _ HC0.out)
 have c8 : W.cell? ⟨w.heap.size, 8, none⟩ = some (.slice xqA xpol.length xqC) := cell_of_row W _ 8 _ _ _ (F0.out _ HC0.out)
 have c9 : W.cell? ⟨w.heap.size, 9, none⟩ = some (.slice xhA xhor.length xhC) := cell_of_row W _ 9 _ _ _ (F0.out _ HC0.out)
 have KK := KA.out W (HBW.out.trans (HC0.out.mono HBW.out.size))
 go_enter Tryz.func7, Tryz.ntmps7
 go_wp2_with fail
 try rw [← HW.out]
 (with_reducible refine KK.mono ?_)
 rintro _ y0 ⟨r, rfl, hz⟩
 clear KK
 have HC1 : Hid (Below W.heap.size W y0) := Lib.hid (HC0.out.trans (hz.mono HC0.out.size))
 clear hz
 clear c0 c1 c2 c3 c4 c5 c6 c7 c8 c9
 cases r
 case false =>
  go_wp2_with fail
  (with_reducible refine (works35_any _).mono ?_)
  rintro _ z ⟨rfl, hz⟩
  have HZ : Hid (Below W.heap.size W z) := Lib.hid (HC1.out.trans (hz.mono HC1.out.size))
  clear hz
  go_wp2_with fail
  go_ret
  exact ⟨rfl, HBW.out.trans (HZ.out.mono HBW.out.size)⟩
 case true =>
  have c0 : y0.cell? ⟨w.heap.size + 1, 0, none⟩ = some (.int .i64 ytx) := cell_of_row y0 _ 0 _ _ _ (F1.out _ HC1.out)
  have c1 : y0.cell? ⟨w.heap.size + 1, 1, none⟩ = some (.int .i64 ytm) := cell_of_row y0 _ 1 _ _ _ (F1.out _ HC1.out)
  have c2 : y0.cell? ⟨w.heap.size + 1, 2, none⟩ = some (.int .i64 ywl) := cell_of_row y0 _ 2 _ _ _ (F1.out _ HC1.out)
  have c3 : y0.cell? ⟨w.heap.size + 1, 3, none⟩ = some (.int .i64 yfi) := cell_of_row y0 _ 3 _ _ _ (F1.out _ HC1.out)
  have c4 : y0.cell? ⟨w.heap.size + 1, 4, none⟩ = some (.slice yeA yents.length yeC) := cell_of_row y0 _ 4 _ _ _ (F1.out _ HC1.out)
  have c5 : y0.cell? ⟨w.heap.size + 1, 5, none⟩ = some (.slice ydA ydels.length ydC) := cell_of_row y0 _ 5 _ _ _ (F1.out _ HC1.out)
  have c6 : y0.cell? ⟨w.heap.size + 1, 6, none⟩ = some (.slice ypA ypla.length ypC) := cell_of_row y0 _ 6 _ _ _ (F1.out _ HC1.out)
  have c7 : y0.cell? ⟨w.heap.size + 1, 7, none⟩ = some (.slice yrA yrel.length yrC) := cell_of_row y0 _ 7 _ _ _ (F1.out _ HC1.out)
  have c8 : y0.cell? ⟨w.heap.size + 1, 8, none⟩ = some (.slice yqA ypol.length yqC) := cell_of_row y0 _ 8 _ _ _ (F1.out _ HC1.out)
  have c9 : y0.cell? ⟨w.heap.size + 1, 9, none⟩ = some (.slice yhA yhor.length yhC) := cell_of_row y0 _ 9 _ _ _ (F1.out _ HC1.out)
  have KK := KB.out y0 (HBW.out.trans (HC1.out.mono HBW.out.size))
  go_wp2_with fail
  (with_reducible refine KK.mono ?_)
  rintro _ y1 ⟨r, rfl, hz⟩
  clear KK
  have HC2 : Hid (Below W.heap.size W y1) := Lib.hid (HC1.out.trans (hz.mono HC1.out.size))
  clear hz
  clear c0 c1 c2 c3 c4 c5 c6 c7 c8 c9
  cases r
  case false =>
   go_wp2_with fail
   (with_reducible refine (works35_any _).mono ?_)
   rintro _ z ⟨rfl, hz⟩
   have HZ : Hid (Below W.heap.size W z) := Lib.hid (HC2.out.trans (hz.mono HC2.out.size))
   clear hz
   go_wp2_with fail
   go_ret
   exact ⟨rfl, HBW.out.trans (HZ.out.mono HBW.out.size)⟩
  case true =>
   have c0 : y1.cell? ⟨w.heap.size + 2, 0, none⟩ = some (.int .i64 stx) := cell_of_row y1 _ 0 _ _ _ (F2.out _ HC2.out)
   have c1 : y1.cell? ⟨w.heap.size + 2, 1, none⟩ = some (.int .i64 stm) := cell_of_row y1 _ 1 _ _ _ (F2.out _ HC2.out)
   have c2 : y1.cell? ⟨w.heap.size + 2, 2, none⟩ = some (.int .i64 swl) := cell_of_row y1 _ 2 _ _ _ (F2.out _ HC2.out)
   have c3 : y1.cell? ⟨w.heap.size + 2, 3, none⟩ = some (.int .i64 snx) := cell_of_row y1 _ 3 _ _ _ (F2.out _ HC2.out)
   have c4 : y1.cell? ⟨w.heap.size + 2, 4, none⟩ = some (.slice seA sents.length seC) := cell_of_row y1 _ 4 _ _ _ (F2.out _ HC2.out)
   have c5 : y1.cell? ⟨w.heap.size + 2, 5, none⟩ = some (.slice ssA sstms.length ssC) := cell_of_row y1 _ 5 _ _ _ (F2.out _ HC2.out)
   have c6 : y1.cell? ⟨w.heap.size + 2, 6, none⟩ = some (.slice stA stabs.length stC) := cell_of_row y1 _ 6 _ _ _ (F2.out _ HC2.out)
   have c7 : y1.cell? ⟨w.heap.size + 2, 7, none⟩ = some (.slice spA spla.length spC) := cell_of_row y1 _ 7 _ _ _ (F2.out _ HC2.out)
   have c8 : y1.cell? ⟨w.heap.size + 2, 8, none⟩ = some (.slice sqA spol.length sqC) := cell_of_row y1 _ 8 _ _ _ (F2.out _ HC2.out)
   have c9 : y1.cell? ⟨w.heap.size + 2, 9, none⟩ = some (.slice shA shor.length shC) := cell_of_row y1 _ 9 _ _ _ (F2.out _ HC2.out)
   have KK := KS.out y1 (HBW.out.trans (HC2.out.mono HBW.out.size))
   go_wp2_with fail
   (with_reducible refine KK.mono ?_)
   rintro _ y2 ⟨r, rfl, hz⟩
   clear KK
   have HC3 : Hid (Below W.heap.size W y2) := Lib.hid (HC2.out.trans (hz.mono HC2.out.size))
   clear hz
   clear c0 c1 c2 c3 c4 c5 c6 c7 c8 c9
   cases r
   case false =>
    go_wp2_with fail
    (with_reducible refine (works35_any _).mono ?_)
    rintro _ z ⟨rfl, hz⟩
    have HZ : Hid (Below W.heap.size W z) := Lib.hid (HC3.out.trans (hz.mono HC3.out.size))
    clear hz
    go_wp2_with fail
    go_ret
    exact ⟨rfl, HBW.out.trans (HZ.out.mono HBW.out.size)⟩
   case true =>
    have c0 : y2.cell? ⟨w.heap.size + 3, 0, none⟩ = some (.int .i64 ttx) := cell_of_row y2 _ 0 _ _ _ (F3.out _ HC3.out)
    have c1 : y2.cell? ⟨w.heap.size + 3, 1, none⟩ = some (.int .i64 ttm) := cell_of_row y2 _ 1 _ _ _ (F3.out _ HC3.out)
    have c2 : y2.cell? ⟨w.heap.size + 3, 2, none⟩ = some (.int .i64 twl) := cell_of_row y2 _ 2 _ _ _ (F3.out _ HC3.out)
    have c3 : y2.cell? ⟨w.heap.size + 3, 3, none⟩ = some (.int .i64 tnx) := cell_of_row y2 _ 3 _ _ _ (F3.out _ HC3.out)
    have c4 : y2.cell? ⟨w.heap.size + 3, 4, none⟩ = some (.slice teA tents.length teC) := cell_of_row y2 _ 4 _ _ _ (F3.out _ HC3.out)
    have c5 : y2.cell? ⟨w.heap.size + 3, 5, none⟩ = some (.slice tsA tstms.length tsC) := cell_of_row y2 _ 5 _ _ _ (F3.out _ HC3.out)
    have c6 : y2.cell? ⟨w.heap.size + 3, 6, none⟩ = some (.slice ttA ttabs.length ttC) := cell_of_row y2 _ 6 _ _ _ (F3.out _ HC3.out)
    have c7 : y2.cell? ⟨w.heap.size + 3, 7, none⟩ = some (.slice tpA tpla.length tpC) := cell_of_row y2 _ 7 _ _ _ (F3.out _ HC3.out)
    have c8 : y2.cell? ⟨w.heap.size + 3, 8, none⟩ = some (.slice tqA tpol.length tqC) := cell_of_row y2 _ 8 _ _ _ (F3.out _ HC3.out)
    have c9 : y2.cell? ⟨w.heap.size + 3, 9, none⟩ = some (.slice thA thor.length thC) := cell_of_row y2 _ 9 _ _ _ (F3.out _ HC3.out)
    have KK := KT.out y2 (HBW.out.trans (HC3.out.mono HBW.out.size))
    go_wp2_with fail
    (with_reducible refine KK.mono ?_)
    rintro _ y3 ⟨r, rfl, hz⟩
    clear KK
    have HC4 : Hid (Below W.heap.size W y3) := Lib.hid (HC3.out.trans (hz.mono HC3.out.size))
    clear hz
    clear c0 c1 c2 c3 c4 c5 c6 c7 c8 c9
    cases r
    case false =>
     go_wp2_with fail
     (with_reducible refine (works35_any _).mono ?_)
     rintro _ z ⟨rfl, hz⟩
     have HZ : Hid (Below W.heap.size W z) := Lib.hid (HC4.out.trans (hz.mono HC4.out.size))
     clear hz
     go_wp2_with fail
     go_ret
     exact ⟨rfl, HBW.out.trans (HZ.out.mono HBW.out.size)⟩
    case true =>
     go_upto_region 3 with (fail)
     cases v1 <;> cases v2
     all_goals
      refine wp_region_noPanic ?_
      refine wp_region_held_drew (S := (fun w' => Below W.heap.size W w')) (by kernel_rfl) ?_ (fun hHeld => ?_)
      ·exact HC4.out.drew
      refine heldTake 0 (some 28) (v := ?_) rfl rfl (by kernel_rfl) (by kernel_rfl) (by kernel_rfl) (by rfl) hHeld (fun _ _ _ h => h) ?_ ?_
      rotate_left
      ·intro w' hSw; (try dsimp only at hSw); have q0 := cell_of_row w' _ 0 _ _ _ (F0.out _ hSw); have q1 := cell_of_row w' _ 1 _ _ _ (F0.out _ hSw); have q2 := cell_of_row w' _ 2 _ _ _ (F0.out _ hSw); have q3 := cell_of_row w' _ 3 _ _ _ (F0.out _ hSw); have q4 := cell_of_row w' _ 4 _ _ _ (F0.out _ hSw); have q5 := cell_of_row w' _ 5 _ _ _ (F0.out _ hSw); have q6 := cell_of_row w' _ 6 _ _ _ (F0.out _ hSw); have q7 := cell_of_row w' _ 7 _ _ _ (F0.out _ hSw); have q8 := cell_of_row w' _ 8 _ _ _ (F0.out _ hSw); have q9 := cell_of_row w' _ 9 _ _ _ (F0.out _ hSw); go_simp <;> with_reducible rfl
      simp only [Act.put, List.setIfInBounds_toArray, List.set_cons_zero, List.set_cons_succ]
      refine heldTake 1 (some 29) (v := ?_) rfl rfl (by kernel_rfl) (by kernel_rfl) (by kernel_rfl) (by rfl) hHeld (fun _ _ _ h => h) ?_ ?_
      rotate_left
      ·intro w' hSw; (try dsimp only at hSw); have q0 := cell_of_row w' _ 0 _ _ _ (F1.out _ hSw); have q1 := cell_of_row w' _ 1 _ _ _ (F1.out _ hSw); have q2 := cell_of_row w' _ 2 _ _ _ (F1.out _ hSw); have q3 := cell_of_row w' _ 3 _ _ _ (F1.out _ hSw); have q4 := cell_of_row w' _ 4 _ _ _ (F1.out _ hSw); have q5 := cell_of_row w' _ 5 _ _ _ (F1.out _ hSw); have q6 := cell_of_row w' _ 6 _ _ _ (F1.out _ hSw); have q7 := cell_of_row w' _ 7 _ _ _ (F1.out _ hSw); have q8 := cell_of_row w' _ 8 _ _ _ (F1.out _ hSw); have q9 := cell_of_row w' _ 9 _ _ _ (F1.out _ hSw); go_simp <;> with_reducible rfl
      simp only [Act.put, List.setIfInBounds_toArray, List.set_cons_zero, List.set_cons_succ]
      refine heldTake 3 (some 31) (v := ?_) rfl rfl (by kernel_rfl) (by kernel_rfl) (by kernel_rfl) (by rfl) hHeld (fun _ _ _ h => h) ?_ ?_
      rotate_left
      ·intro w' hSw; (try dsimp only at hSw); have q0 := cell_of_row w' _ 0 _ _ _ (F0.out _ hSw); have q1 := cell_of_row w' _ 1 _ _ _ (F0.out _ hSw); have q2 := cell_of_row w' _ 2 _ _ _ (F0.out _ hSw); have q3 := cell_of_row w' _ 3 _ _ _ (F0.out _ hSw); have q4 := cell_of_row w' _ 4 _ _ _ (F0.out _ hSw); have q5 := cell_of_row w' _ 5 _ _ _ (F0.out _ hSw); have q6 := cell_of_row w' _ 6 _ _ _ (F0.out _ hSw); have q7 := cell_of_row w' _ 7 _ _ _ (F0.out _ hSw); have q8 := cell_of_row w' _ 8 _ _ _ (F0.out _ hSw); have q9 := cell_of_row w' _ 9 _ _ _ (F0.out _ hSw); go_simp <;> with_reducible rfl
      simp only [Act.put, List.setIfInBounds_toArray, List.set_cons_zero, List.set_cons_succ]
      refine heldTake 4 (some 32) (v := ?_) rfl rfl (by kernel_rfl) (by kernel_rfl) (by kernel_rfl) (by rfl) hHeld (fun _ _ _ h => h) ?_ ?_
      rotate_left
      ·intro w' hSw; (try dsimp only at hSw); have q0 := cell_of_row w' _ 0 _ _ _ (F1.out _ hSw); have q1 := cell_of_row w' _ 1 _ _ _ (F1.out _ hSw); have q2 := cell_of_row w' _ 2 _ _ _ (F1.out _ hSw); have q3 := cell_of_row w' _ 3 _ _ _ (F1.out _ hSw); have q4 := cell_of_row w' _ 4 _ _ _ (F1.out _ hSw); have q5 := cell_of_row w' _ 5 _ _ _ (F1.out _ hSw); have q6 := cell_of_row w' _ 6 _ _ _ (F1.out _ hSw); have q7 := cell_of_row w' _ 7 _ _ _ (F1.out _ hSw); have q8 := cell_of_row w' _ 8 _ _ _ (F1.out _ hSw); have q9 := cell_of_row w' _ 9 _ _ _ (F1.out _ hSw); go_simp <;> with_reducible rfl
      simp only [Act.put, List.setIfInBounds_toArray, List.set_cons_zero, List.set_cons_succ]
      refine heldCall 2 (some 30) (f := ?_) (args := ?_) rfl rfl (by kernel_rfl) (by rfl) ?_ ?_
      rotate_left 2
      ·go_simp <;> first | (constructor <;> with_reducible rfl) | with_reducible rfl
      (with_reducible refine (M1.out _ (HBW.out.trans ((show Below W.heap.size W _ from hHeld).mono HBW.out.size))).mono ?_)
      rintro _ z1 ⟨rfl, hz1⟩
      have hBz1 : Below W.heap.size W z1 := (show Below W.heap.size W _ from hHeld).trans (hz1.mono (show Below W.heap.size W _ from hHeld).size)
      clear hz1
      refine ⟨_, rfl, keepAnd ?_ (fun hNew => ?_)⟩
      ·exact hBz1
      clear hHeld
      have hHeld := hNew
      clear hNew
      simp only [Act.put, List.setIfInBounds_toArray, List.set_cons_zero, List.set_cons_succ]
      refine heldCall 5 (some 33) (f := ?_) (args := ?_) rfl rfl (by kernel_rfl) (by rfl) ?_ ?_
      rotate_left 2
      ·go_simp <;> first | (constructor <;> with_reducible rfl) | with_reducible rfl
      (with_reducible refine (M2.out _ (HBW.out.trans ((show Below W.heap.size W _ from hHeld).mono HBW.out.size))).mono ?_)
      rintro _ z2 ⟨rfl, hz2⟩
      have hBz2 : Below W.heap.size W z2 := (show Below W.heap.size W _ from hHeld).trans (hz2.mono (show Below W.heap.size W _ from hHeld).size)
      clear hz2
      refine ⟨_, rfl, keepAnd ?_ (fun hNew => ?_)⟩
      ·exact hBz2
      clear hHeld
      have hHeld := hNew
      clear hNew
      simp only [Act.put, List.setIfInBounds_toArray, List.set_cons_zero, List.set_cons_succ]
      refine heldTake 6 (some 34) (v := ?_) rfl rfl (by kernel_rfl) (by kernel_rfl) (by kernel_rfl) (by rfl) hHeld (fun _ _ _ h => h) ?_ ?_
      rotate_left
      ·intro w' hSw; (try dsimp only at hSw); go_simp <;> with_reducible rfl
      simp only [Act.put, List.setIfInBounds_toArray, List.set_cons_zero, List.set_cons_succ]
      refine heldTake 7 (some 35) (v := ?_) rfl rfl (by kernel_rfl) (by kernel_rfl) (by kernel_rfl) (by rfl) hHeld (fun _ _ _ h => h) ?_ ?_
      rotate_left
      ·intro w' hSw; (try dsimp only at hSw); go_simp <;> with_reducible rfl
      simp only [Act.put, List.setIfInBounds_toArray, List.set_cons_zero, List.set_cons_succ]
      refine heldTake 8 (some 36) (v := ?_) rfl rfl (by kernel_rfl) (by kernel_rfl) (by kernel_rfl) (by rfl) hHeld (fun _ _ _ h => h) ?_ ?_
      rotate_left
      ·intro w' hSw; (try dsimp only at hSw); have q0 := cell_of_row w' _ 0 _ _ _ (F0.out _ hSw); have q1 := cell_of_row w' _ 1 _ _ _ (F0.out _ hSw); have q2 := cell_of_row w' _ 2 _ _ _ (F0.out _ hSw); have q3 := cell_of_row w' _ 3 _ _ _ (F0.out _ hSw); have q4 := cell_of_row w' _ 4 _ _ _ (F0.out _ hSw); have q5 := cell_of_row w' _ 5 _ _ _ (F0.out _ hSw); have q6 := cell_of_row w' _ 6 _ _ _ (F0.out _ hSw); have q7 := cell_of_row w' _ 7 _ _ _ (F0.out _ hSw); have q8 := cell_of_row w' _ 8 _ _ _ (F0.out _ hSw); have q9 := cell_of_row w' _ 9 _ _ _ (F0.out _ hSw); go_simp <;> with_reducible rfl
      simp only [Act.put, List.setIfInBounds_toArray, List.set_cons_zero, List.set_cons_succ]
      refine heldTake 9 (some 37) (v := ?_) rfl rfl (by kernel_rfl) (by kernel_rfl) (by kernel_rfl) (by rfl) hHeld (fun _ _ _ h => h) ?_ ?_
      rotate_left
      ·intro w' hSw; (try dsimp only at hSw); have q0 := cell_of_row w' _ 0 _ _ _ (F0.out _ hSw); have q1 := cell_of_row w' _ 1 _ _ _ (F0.out _ hSw); have q2 := cell_of_row w' _ 2 _ _ _ (F0.out _ hSw); have q3 := cell_of_row w' _ 3 _ _ _ (F0.out _ hSw); have q4 := cell_of_row w' _ 4 _ _ _ (F0.out _ hSw); have q5 := cell_of_row w' _ 5 _ _ _ (F0.out _ hSw); have q6 := cell_of_row w' _ 6 _ _ _ (F0.out _ hSw); have q7 := cell_of_row w' _ 7 _ _ _ (F0.out _ hSw); have q8 := cell_of_row w' _ 8 _ _ _ (F0.out _ hSw); have q9 := cell_of_row w' _ 9 _ _ _ (F0.out _ hSw); go_simp <;> with_reducible rfl
      simp only [Act.put, List.setIfInBounds_toArray, List.set_cons_zero, List.set_cons_succ]
      refine heldCall 10 (some 38) (f := ?_) (args := ?_) rfl rfl (by kernel_rfl) (by rfl) ?_ ?_
      rotate_left 2
      ·go_simp <;> first | (constructor <;> with_reducible rfl) | with_reducible rfl
      (with_reducible refine (M3.out _ (HBW.out.trans ((show Below W.heap.size W _ from hHeld).mono HBW.out.size))).mono ?_)
      rintro _ z3 ⟨rfl, hz3⟩
      have hBz3 : Below W.heap.size W z3 := (show Below W.heap.size W _ from hHeld).trans (hz3.mono (show Below W.heap.size W _ from hHeld).size)
      clear hz3
      refine ⟨_, rfl, keepAnd ?_ (fun hNew => ?_)⟩
      ·exact hBz3
      clear hHeld
      have hHeld := hNew
      clear hNew
      simp only [Act.put, List.setIfInBounds_toArray, List.set_cons_zero, List.set_cons_succ]
      refine heldTake 11 (some 39) (v := ?_) rfl rfl (by kernel_rfl) (by kernel_rfl) (by kernel_rfl) (by rfl) hHeld (fun _ _ _ h => h) ?_ ?_
      rotate_left
      ·intro w' hSw; (try dsimp only at hSw); go_simp <;> with_reducible rfl
      simp only [Act.put, List.setIfInBounds_toArray, List.set_cons_zero, List.set_cons_succ]
      refine heldTake 12 (some 40) (v := ?_) rfl rfl (by kernel_rfl) (by kernel_rfl) (by kernel_rfl) (by rfl) hHeld (fun _ _ _ h => h) ?_ ?_
      rotate_left
      ·intro w' hSw; (try dsimp only at hSw); go_simp <;> with_reducible rfl
      simp only [Act.put, List.setIfInBounds_toArray, List.set_cons_zero, List.set_cons_succ]
      refine heldTake 13 (some 41) (v := ?_) rfl rfl (by kernel_rfl) (by kernel_rfl) (by kernel_rfl) (by rfl) hHeld (fun _ _ _ h => h) ?_ ?_
      rotate_left
      ·intro w' hSw; (try dsimp only at hSw); have q0 := cell_of_row w' _ 0 _ _ _ (F2.out _ hSw); have q1 := cell_of_row w' _ 1 _ _ _ (F2.out _ hSw); have q2 := cell_of_row w' _ 2 _ _ _ (F2.out _ hSw); have q3 := cell_of_row w' _ 3 _ _ _ (F2.out _ hSw); have q4 := cell_of_row w' _ 4 _ _ _ (F2.out _ hSw); have q5 := cell_of_row w' _ 5 _ _ _ (F2.out _ hSw); have q6 := cell_of_row w' _ 6 _ _ _ (F2.out _ hSw); have q7 := cell_of_row w' _ 7 _ _ _ (F2.out _ hSw); have q8 := cell_of_row w' _ 8 _ _ _ (F2.out _ hSw); have q9 := cell_of_row w' _ 9 _ _ _ (F2.out _ hSw); go_simp <;> with_reducible rfl
      simp only [Act.put, List.setIfInBounds_toArray, List.set_cons_zero, List.set_cons_succ]
      refine heldTake 14 (some 42) (v := ?_) rfl rfl (by kernel_rfl) (by kernel_rfl) (by kernel_rfl) (by rfl) hHeld (fun _ _ _ h => h) ?_ ?_
      rotate_left
      ·intro w' hSw; (try dsimp only at hSw); have q0 := cell_of_row w' _ 0 _ _ _ (F3.out _ hSw); have q1 := cell_of_row w' _ 1 _ _ _ (F3.out _ hSw); have q2 := cell_of_row w' _ 2 _ _ _ (F3.out _ hSw); have q3 := cell_of_row w' _ 3 _ _ _ (F3.out _ hSw); have q4 := cell_of_row w' _ 4 _ _ _ (F3.out _ hSw); have q5 := cell_of_row w' _ 5 _ _ _ (F3.out _ hSw); have q6 := cell_of_row w' _ 6 _ _ _ (F3.out _ hSw); have q7 := cell_of_row w' _ 7 _ _ _ (F3.out _ hSw); have q8 := cell_of_row w' _ 8 _ _ _ (F3.out _ hSw); have q9 := cell_of_row w' _ 9 _ _ _ (F3.out _ hSw); go_simp <;> with_reducible rfl
      simp only [Act.put, List.setIfInBounds_toArray, List.set_cons_zero, List.set_cons_succ]
      refine heldTake 16 (some 44) (v := ?_) rfl rfl (by kernel_rfl) (by kernel_rfl) (by kernel_rfl) (by rfl) hHeld (fun _ _ _ h => h) ?_ ?_
      rotate_left
      ·intro w' hSw; (try dsimp only at hSw); have q0 := cell_of_row w' _ 0 _ _ _ (F2.out _ hSw); have q1 := cell_of_row w' _ 1 _ _ _ (F2.out _ hSw); have q2 := cell_of_row w' _ 2 _ _ _ (F2.out _ hSw); have q3 := cell_of_row w' _ 3 _ _ _ (F2.out _ hSw); have q4 := cell_of_row w' _ 4 _ _ _ (F2.out _ hSw); have q5 := cell_of_row w' _ 5 _ _ _ (F2.out _ hSw); have q6 := cell_of_row w' _ 6 _ _ _ (F2.out _ hSw); have q7 := cell_of_row w' _ 7 _ _ _ (F2.out _ hSw); have q8 := cell_of_row w' _ 8 _ _ _ (F2.out _ hSw); have q9 := cell_of_row w' _ 9 _ _ _ (F2.out _ hSw); go_simp <;> with_reducible rfl
      simp only [Act.put, List.setIfInBounds_toArray, List.set_cons_zero, List.set_cons_succ]
      refine heldTake 17 (some 45) (v := ?_) rfl rfl (by kernel_rfl) (by kernel_rfl) (by kernel_rfl) (by rfl) hHeld (fun _ _ _ h => h) ?_ ?_
      rotate_left
      ·intro w' hSw; (try dsimp only at hSw); have q0 := cell_of_row w' _ 0 _ _ _ (F3.out _ hSw); have q1 := cell_of_row w' _ 1 _ _ _ (F3.out _ hSw); have q2 := cell_of_row w' _ 2 _ _ _ (F3.out _ hSw); have q3 := cell_of_row w' _ 3 _ _ _ (F3.out _ hSw); have q4 := cell_of_row w' _ 4 _ _ _ (F3.out _ hSw); have q5 := cell_of_row w' _ 5 _ _ _ (F3.out _ hSw); have q6 := cell_of_row w' _ 6 _ _ _ (F3.out _ hSw); have q7 := cell_of_row w' _ 7 _ _ _ (F3.out _ hSw); have q8 := cell_of_row w' _ 8 _ _ _ (F3.out _ hSw); have q9 := cell_of_row w' _ 9 _ _ _ (F3.out _ hSw); go_simp <;> with_reducible rfl
      simp only [Act.put, List.setIfInBounds_toArray, List.set_cons_zero, List.set_cons_succ]
      refine heldCall 15 (some 43) (f := ?_) (args := ?_) rfl rfl (by kernel_rfl) (by rfl) ?_ ?_
      rotate_left 2
      ·go_simp <;> first | (constructor <;> with_reducible rfl) | with_reducible rfl
      (with_reducible refine (M4.out _ (HBW.out.trans ((show Below W.heap.size W _ from hHeld).mono HBW.out.size))).mono ?_)
      rintro _ z4 ⟨rfl, hz4⟩
      have hBz4 : Below W.heap.size W z4 := (show Below W.heap.size W _ from hHeld).trans (hz4.mono (show Below W.heap.size W _ from hHeld).size)
      clear hz4
      refine ⟨_, rfl, keepAnd ?_ (fun hNew => ?_)⟩
      ·exact hBz4
      clear hHeld
      have hHeld := hNew
      clear hNew
      simp only [Act.put, List.setIfInBounds_toArray, List.set_cons_zero, List.set_cons_succ]
      refine heldCall 18 (some 46) (f := ?_) (args := ?_) rfl rfl (by kernel_rfl) (by rfl) ?_ ?_
      rotate_left 2
      ·go_simp <;> first | (constructor <;> with_reducible rfl) | with_reducible rfl
      (with_reducible refine (M5.out _ (HBW.out.trans ((show Below W.heap.size W _ from hHeld).mono HBW.out.size))).mono ?_)
      rintro _ z5 ⟨rfl, hz5⟩
      have hBz5 : Below W.heap.size W z5 := (show Below W.heap.size W _ from hHeld).trans (hz5.mono (show Below W.heap.size W _ from hHeld).size)
      clear hz5
      refine ⟨_, rfl, keepAnd ?_ (fun hNew => ?_)⟩
      ·exact hBz5
      clear hHeld
      have hHeld := hNew
      clear hNew
      simp only [Act.put, List.setIfInBounds_toArray, List.set_cons_zero, List.set_cons_succ]
      refine heldTake 19 (some 47) (v := ?_) rfl rfl (by kernel_rfl) (by kernel_rfl) (by kernel_rfl) (by rfl) hHeld (fun _ _ _ h => h) ?_ ?_
      rotate_left
      ·intro w' hSw; (try dsimp only at hSw); go_simp <;> with_reducible rfl
      simp only [Act.put, List.setIfInBounds_toArray, List.set_cons_zero, List.set_cons_succ]
      refine heldTake 20 (some 48) (v := ?_) rfl rfl (by kernel_rfl) (by kernel_rfl) (by kernel_rfl) (by rfl) hHeld (fun _ _ _ h => h) ?_ ?_
      rotate_left
      ·intro w' hSw; (try dsimp only at hSw); go_simp <;> with_reducible rfl
      simp only [Act.put, List.setIfInBounds_toArray, List.set_cons_zero, List.set_cons_succ]
      refine heldTake 21 (some 49) (v := ?_) rfl rfl (by kernel_rfl) (by kernel_rfl) (by kernel_rfl) (by rfl) hHeld (fun _ _ _ h => h) ?_ ?_
      rotate_left
      ·intro w' hSw; (try dsimp only at hSw); go_simp <;> with_reducible rfl
      simp only [Act.put, List.setIfInBounds_toArray, List.set_cons_zero, List.set_cons_succ]
      refine heldTake 22 (some 50) (v := ?_) rfl rfl (by kernel_rfl) (by kernel_rfl) (by kernel_rfl) (by rfl) hHeld (fun _ _ _ h => h) ?_ ?_
      rotate_left
      ·intro w' hSw; (try dsimp only at hSw); have q0 := cell_of_row w' _ 0 _ _ _ (F3.out _ hSw); have q1 := cell_of_row w' _ 1 _ _ _ (F3.out _ hSw); have q2 := cell_of_row w' _ 2 _ _ _ (F3.out _ hSw); have q3 := cell_of_row w' _ 3 _ _ _ (F3.out _ hSw); have q4 := cell_of_row w' _ 4 _ _ _ (F3.out _ hSw); have q5 := cell_of_row w' _ 5 _ _ _ (F3.out _ hSw); have q6 := cell_of_row w' _ 6 _ _ _ (F3.out _ hSw); have q7 := cell_of_row w' _ 7 _ _ _ (F3.out _ hSw); have q8 := cell_of_row w' _ 8 _ _ _ (F3.out _ hSw); have q9 := cell_of_row w' _ 9 _ _ _ (F3.out _ hSw); go_simp <;> with_reducible rfl
      simp only [Act.put, List.setIfInBounds_toArray, List.set_cons_zero, List.set_cons_succ]
      refine heldTake 23 (some 51) (v := ?_) rfl rfl (by kernel_rfl) (by kernel_rfl) (by kernel_rfl) (by rfl) hHeld (fun _ _ _ h => h) ?_ ?_
      rotate_left
      ·intro w' hSw; (try dsimp only at hSw); have q0 := cell_of_row w' _ 0 _ _ _ (F3.out _ hSw); have q1 := cell_of_row w' _ 1 _ _ _ (F3.out _ hSw); have q2 := cell_of_row w' _ 2 _ _ _ (F3.out _ hSw); have q3 := cell_of_row w' _ 3 _ _ _ (F3.out _ hSw); have q4 := cell_of_row w' _ 4 _ _ _ (F3.out _ hSw); have q5 := cell_of_row w' _ 5 _ _ _ (F3.out _ hSw); have q6 := cell_of_row w' _ 6 _ _ _ (F3.out _ hSw); have q7 := cell_of_row w' _ 7 _ _ _ (F3.out _ hSw); have q8 := cell_of_row w' _ 8 _ _ _ (F3.out _ hSw); have q9 := cell_of_row w' _ 9 _ _ _ (F3.out _ hSw); go_simp <;> with_reducible rfl
      simp only [Act.put, List.setIfInBounds_toArray, List.set_cons_zero, List.set_cons_succ]
      refine heldCall 24 (some 52) (f := ?_) (args := ?_) rfl rfl (by kernel_rfl) (by rfl) ?_ ?_
      rotate_left 2
      ·go_simp <;> first | (constructor <;> with_reducible rfl) | with_reducible rfl
      (with_reducible refine (M6.out _ (HBW.out.trans ((show Below W.heap.size W _ from hHeld).mono HBW.out.size))).mono ?_)
      rintro _ z6 ⟨rfl, hz6⟩
      have hBz6 : Below W.heap.size W z6 := (show Below W.heap.size W _ from hHeld).trans (hz6.mono (show Below W.heap.size W _ from hHeld).size)
      clear hz6
      refine ⟨_, rfl, keepAnd ?_ (fun hNew => ?_)⟩
      ·exact hBz6
      clear hHeld
      have hHeld := hNew
      clear hNew
      simp only [Act.put, List.setIfInBounds_toArray, List.set_cons_zero, List.set_cons_succ]
      refine heldTake 25 (some 53) (v := ?_) rfl rfl (by kernel_rfl) (by kernel_rfl) (by kernel_rfl) (by rfl) hHeld (fun _ _ _ h => h) ?_ ?_
      rotate_left
      ·intro w' hSw; (try dsimp only at hSw); go_simp <;> with_reducible rfl
      simp only [Act.put, List.setIfInBounds_toArray, List.set_cons_zero, List.set_cons_succ]
      refine heldTake 26 (some 54) (v := ?_) rfl rfl (by kernel_rfl) (by kernel_rfl) (by kernel_rfl) (by rfl) hHeld (fun _ _ _ h => h) ?_ ?_
      rotate_left
      ·intro w' hSw; (try dsimp only at hSw); go_simp <;> with_reducible rfl
      simp only [Act.put, List.setIfInBounds_toArray, List.set_cons_zero, List.set_cons_succ]
      refine heldCall 27 (some 55) (f := ?_) (args := ?_) rfl rfl (by kernel_rfl) (by rfl) ?_ ?_
      rotate_left 2
      ·go_simp <;> first | (constructor <;> with_reducible rfl) | with_reducible rfl
      (with_reducible refine (works35_any _).mono ?_)
      rintro _ z7 ⟨rfl, hz7⟩
      have hBz7 : Below W.heap.size W z7 := (show Below W.heap.size W _ from hHeld).trans (hz7.mono (show Below W.heap.size W _ from hHeld).size)
      refine ⟨_, rfl, keepAnd ?_ (fun hNew => ?_)⟩
      ·exact hBz7
      clear hHeld
      have hHeld := hNew
      clear hNew
      simp only [Act.put, List.setIfInBounds_toArray, List.set_cons_zero, List.set_cons_succ]
      refine heldTake 28 (some 56) (v := ?_) rfl rfl (by kernel_rfl) (by kernel_rfl) (by kernel_rfl) (by rfl) hHeld (fun _ _ _ h => h) ?_ ?_
      rotate_left
      ·intro w' hSw; (try dsimp only at hSw); go_simp <;> with_reducible rfl
      simp only [Act.put, List.setIfInBounds_toArray, List.set_cons_zero, List.set_cons_succ]
      refine heldTake 29 (some 8) (v := ?_) rfl rfl (by kernel_rfl) (by kernel_rfl) (by kernel_rfl) (by rfl) hHeld (fun _ _ _ h => h) ?_ ?_
      rotate_left
      ·intro w' hSw; (try dsimp only at hSw); go_simp <;> with_reducible rfl
      simp only [Act.put, List.setIfInBounds_toArray, List.set_cons_zero, List.set_cons_succ]
      refine wpAnyH_done (by kernel_rfl) ?_ _
      refine NoPanic.normal ?_
      go_wp2_with fail
      go_ret
      exact ⟨rfl, HBW.out.trans ((show Below W.heap.size W _ from hHeld).mono HBW.out.size)⟩
end Go.Proofs.YtbfdegkickjbpaaGreat
