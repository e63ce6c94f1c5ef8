/-
  The stable sort: insertionSort.
-/
import Derived.Test.YtkhmjlahlcighaaStabB
namespace Go.Proofs.Ytkhmjlahlcighaa
open Go.RowKit Go.Lib Go.IntWalk Go.Sort Go.Shelf

section
variable {α : Type} [Inhabited α]
/-- what is asked of the order -/
def CmpB (enc : α → List Value) (cf : α → α → Int) : Prop := ∀ (x y : α) (w : World), Calls Try.prog 17 #[.agg (enc x).toArray, .agg (enc y).toArray] w fun e w' => e = .returned (.int .i64 (cf x y)) ∧ Below w.heap.size w w'
theorem load_elem {enc : α → List Value} {k : Nat} (hk : ∀ x, (enc x).length = k) {w : World} {blk off : Nat} {d : Array α} (h : HoldsK enc k w blk off d) {i : Nat} (hi : i < d.size) :
    Sem.run Try.prog (loadCellsFrom ⟨blk, off + i * k, none⟩ 0 k #[]) w = .ok (enc d[i]!).toArray w := run_loadCellsFrom_list Try.prog _ _ _ k (hk _) (HoldsK.cells h hk hi)
theorem swap_facts {enc : α → List Value} {k : Nat} (hk : ∀ x, (enc x).length = k) (h1 : ∀ x, ∀ v ∈ enc x, v.oneCell' = true) {w : World} {blk off : Nat} {d : Array α} (h : HoldsK enc k w blk off d) {i j : Nat} (hi : i < d.size) (hj : j < d.size) :
    Sem.run Try.prog (loadCellsFrom ⟨blk, off + i * k, none⟩ 0 k #[]) w = .ok (enc d[i]!).toArray w ∧ Sem.run Try.prog (loadCellsFrom ⟨blk, off + j * k, none⟩ 0 k #[]) w = .ok (enc d[j]!).toArray w ∧
    Sem.run Try.prog (storeCells ⟨blk, off + i * k, none⟩ (enc d[j]!) 0) w = .ok () (w.setCells blk (off + i * k) (enc d[j]!)) ∧
    Sem.run Try.prog (storeCells ⟨blk, off + j * k, none⟩ (enc d[i]!) 0) (w.setCells blk (off + i * k) (enc d[j]!)) = .ok () ((w.setCells blk (off + i * k) (enc d[j]!)).setCells blk (off + j * k) (enc d[i]!)) ∧
    HoldsK enc k ((w.setCells blk (off + i * k) (enc d[j]!)).setCells blk (off + j * k) (enc d[i]!)) blk off (swp d i j) ∧ Chg (· = blk) w ((w.setCells blk (off + i * k) (enc d[j]!)).setCells blk (off + j * k) (enc d[i]!)) := by
  have bnd : ∀ x, x < d.size → x * k + k ≤ d.size * k := fun x hx => by
    have := Nat.mul_le_mul_right k (show x + 1 ≤ d.size from hx); rwa [Nat.add_mul, Nat.one_mul] at this
  exact ⟨load_elem hk h hi, load_elem hk h hj, stores_of_holds Try.prog h (i * k) _ (by rw [hk, size_flatK]; exact bnd i hi) (h1 _),
    stores_of_holds Try.prog (holds_setCells_c h (i * k) _ (by rw [hk, size_flatK]; exact bnd i hi)) (j * k) _ (by rw [hk, size_setMany, size_flatK]; exact bnd j hj) (h1 _),
    holdsK_swp hk h hi hj, (chg_setCells blk _ _ _).trans (chg_setCells blk _ _ _) (fun _ _ h => h)⟩
end

set_option maxRecDepth 1000000 in
set_option maxHeartbeats 8000000 in
theorem insert_any {α : Type} [Inhabited α] (enc : α → List Value) (k : Nat) (aE : ∀ w, (isAgg 38).run Try.prog w = .ok true w) (zE : ∀ w, (Go.sizeOf 38).run Try.prog w = .ok k w) (hk : ∀ x, (enc x).length = k) (h1 : ∀ x, ∀ v ∈ enc x, v.oneCell' = true) (cf : α → α → Int) (hcmp : CmpB enc cf)
    (blk off cap a b sz : Nat) (d : Array α) (hz : d.size = sz) (w : World) (hH : HoldsK enc k w blk off d) (hblk : blk < w.heap.size) (hab : a ≤ b) (hb : b ≤ d.size) (hsz : d.size < 4611686018427387904) :
    Calls Try.prog 32 #[.slice (some ⟨blk, off, none⟩) sz cap, .int .i64 a, .int .i64 b, .func (.func 17) #[] #[]] w fun e w' =>
      e = .returned (.tuple #[]) ∧ HoldsK enc k w' blk off (Sort.insertionSort (ltOf cf) d a b) ∧ Chg (· = blk) w w' := by
  subst hz
  have HH : Hid (HoldsK enc k w blk off d) := hH
  have HK : Hid (∀ x, (enc x).length = k) := hk
  have H1 : Hid (∀ x, ∀ v ∈ enc x, v.oneCell' = true) := h1
  have HC : Hid (CmpB enc cf) := hcmp
  have mixed : Try.prog.follows .mixedOrders = true := by kernel_rfl
  clear hH hk h1 hcmp
  go_enter Try.func32, Try.ntmps32
  go_wp2_with fail
  go_loopw [8] (fun vi wr => ∃ (i : Nat) (dk : Array α), vi = .int .i64 (i : Int) ∧ a < i ∧ i ≤ b + 1 ∧ dk.size = d.size ∧ Hid (HoldsK enc k wr blk off dk) ∧ Hid (insOuter (ltOf cf) a b i dk = insOuter (ltOf cf) a b (a + 1) d) ∧ Chg (· = blk) w wr) (fun vi _ => b + 1 - (RowKit.intOf vi).toNat)
  case atStart => exact ⟨a + 1, d, by go_num, by omega, by omega, rfl, HH, Lib.hid rfl, Chg.refl _ _⟩
  case round =>
    obtain ⟨i, dk, rfl, hai, hib, hsk, HR, HO, hC⟩ := hrel
    have hsr := hC.size
    by_cases hlt : i < b
    case pos =>
      go_wp2_with fail
      go_loopw [9] (fun vj wq => ∃ (j : Nat) (dj : Array α), vj = .int .i64 (j : Int) ∧ a ≤ j ∧ j ≤ i ∧ dj.size = d.size ∧ Hid (HoldsK enc k wq blk off dj) ∧ Hid (insInner (ltOf cf) a j dj = insInner (ltOf cf) a i dk) ∧ Chg (· = blk) wr wq) (fun vj _ => (RowKit.intOf vj).toNat)
      case atStart => exact ⟨i, dk, rfl, by omega, Nat.le_refl _, hsk, HR, Lib.hid rfl, Chg.refl _ _⟩
      case round =>
        obtain ⟨j, dj, rfl, haj, hji, hsj, HQ, HI, hCq⟩ := hrel
        have hsq := hCq.size
        have OUT : Hid ((j ≤ a ∨ ltOf cf dj[j]! dj[j - 1]! = false) → Hid (insOuter (ltOf cf) a b (i + 1) dj = insOuter (ltOf cf) a b (a + 1) d)) := Lib.hid fun hs => by
          show _ = _
          rw [← HO.out, insOuter_go _ _ _ _ _ hlt, ← HI.out, insInner_stop _ _ _ _ hs]
        by_cases hja : a < j
        case pos =>
          obtain ⟨jp, rfl⟩ : ∃ jp, j = jp + 1 := ⟨j - 1, by omega⟩
          have hwp : IntKind.i64.wrap (jp : Int) = (jp : Int) := by rw [IntKind.wrap_i64]; omega
          have jz : (jp : Int) + 1 < (d.size : Int) := by omega
          have jz1 : (jp : Int) < (d.size : Int) := by omega
          have hjaz' : (a : Int) < (jp : Int) + 1 := by omega
          have p0 : (0 : Int) ≤ (jp : Int) + 1 := by omega
          have e0 : ((jp : Int) + 1).toNat = jp + 1 := by omega
          obtain ⟨cv, hcv⟩ : ∃ c, c = cf dj[jp + 1]! dj[jp]! := ⟨_, rfl⟩
          have HCV := Lib.hid hcv
          have hcq := HC.out dj[jp + 1]! dj[jp]! wr.drew
          rw [← hcv] at hcq
          clear hcv
          go_wp2_with fail
          refine wp_region_noPanic ?_
          refine wp_region_held_drew (S := (fun w' => Below wr.heap.size wr w')) (by kernel_rfl) ?_ (fun hHeld => ?_)
          · exact (Below.refl _ _).drew
          refine heldTake 0 (some 18) (v := ?_) rfl rfl (by kernel_rfl) (by kernel_rfl) (by kernel_rfl) (by rfl) hHeld (fun _ _ _ h => h) ?_ ?_
          rotate_left
          · intro w' hSw; (try dsimp only at hSw); go_simp <;> with_reducible rfl
          simp only [Act.put, List.setIfInBounds_toArray, List.set_cons_zero, List.set_cons_succ]
          refine heldTake 1 (some 19) (v := ?_) rfl rfl (by kernel_rfl) (by kernel_rfl) (by kernel_rfl) (by rfl) hHeld (fun _ _ _ h => h) ?_ ?_
          rotate_left
          · intro w' hSw; (try dsimp only at hSw); go_simp <;> with_reducible rfl
          simp only [Act.put, List.setIfInBounds_toArray, List.set_cons_zero, List.set_cons_succ]
          refine heldTake 2 (some 20) (v := ?_) rfl rfl (by kernel_rfl) (by kernel_rfl) (by kernel_rfl) (by rfl) hHeld (fun _ _ _ h => h) ?_ ?_
          rotate_left
          · intro w' hSw; (try dsimp only at hSw); go_simp <;> with_reducible rfl
          simp only [Act.put, List.setIfInBounds_toArray, List.set_cons_zero, List.set_cons_succ]
          refine heldTake 3 (some 21) (v := ?_) rfl rfl (by kernel_rfl) (by kernel_rfl) (by kernel_rfl) (by rfl) hHeld (fun _ _ _ h => h) ?_ ?_
          rotate_left
          · intro w' hSw; (try dsimp only at hSw); go_simp <;> with_reducible rfl
          simp only [Act.put, List.setIfInBounds_toArray, List.set_cons_zero, List.set_cons_succ]
          refine heldTake 4 (some 22) (v := ?_) rfl rfl (by kernel_rfl) (by kernel_rfl) (by kernel_rfl) (by rfl) hHeld (fun _ _ _ h => h) ?_ ?_
          rotate_left
          · intro w' hSw; (try dsimp only at hSw); go_simp <;> with_reducible rfl
          simp only [Act.put, List.setIfInBounds_toArray, List.set_cons_zero, List.set_cons_succ]
          refine heldTake 5 (some 23) (v := ?_) rfl rfl (by kernel_rfl) (by kernel_rfl) (by kernel_rfl) (by rfl) hHeld (fun _ _ _ h => h) ?_ ?_
          rotate_left
          · intro w' hSw; (try dsimp only at hSw); go_simp <;> with_reducible rfl
          simp only [Act.put, List.setIfInBounds_toArray, List.set_cons_zero, List.set_cons_succ]
          refine heldTake 6 (some 24) (v := ?_) rfl rfl (by kernel_rfl) (by kernel_rfl) (by kernel_rfl) (by rfl) hHeld (fun _ _ _ h => h) ?_ ?_
          rotate_left
          · intro w' hSw; (try dsimp only at hSw); go_simp <;> with_reducible rfl
          simp only [Act.put, List.setIfInBounds_toArray, List.set_cons_zero, List.set_cons_succ]
          refine heldTake 7 (some 25) (v := ?_) rfl rfl (by kernel_rfl) (by kernel_rfl) (by kernel_rfl) (by rfl) hHeld (fun _ _ _ h => h) ?_ ?_
          rotate_left
          · intro w' hSw; (try dsimp only at hSw); go_simp <;> with_reducible rfl
          simp only [Act.put, List.setIfInBounds_toArray, List.set_cons_zero, List.set_cons_succ]
          refine heldTake 8 (some 26) (v := ?_) rfl rfl (by kernel_rfl) (by kernel_rfl) (by kernel_rfl) (by rfl) hHeld (fun _ _ _ h => h) ?_ ?_
          rotate_left
          · intro w' hSw; (try dsimp only at hSw); have hH' := HoldsK.keep (HQ.out) (hSw.block blk (by omega)); have la := load_elem HK.out hH' (i := jp + 1) (by omega); go_simp <;> with_reducible rfl
          simp only [Act.put, List.setIfInBounds_toArray, List.set_cons_zero, List.set_cons_succ]
          refine heldTake 9 (some 27) (v := ?_) rfl rfl (by kernel_rfl) (by kernel_rfl) (by kernel_rfl) (by rfl) hHeld (fun _ _ _ h => h) ?_ ?_
          rotate_left
          · intro w' hSw; (try dsimp only at hSw); go_simp <;> with_reducible rfl
          simp only [Act.put, List.setIfInBounds_toArray, List.set_cons_zero, List.set_cons_succ]
          refine heldTake 10 (some 28) (v := ?_) rfl rfl (by kernel_rfl) (by kernel_rfl) (by kernel_rfl) (by rfl) hHeld (fun _ _ _ h => h) ?_ ?_
          rotate_left
          · intro w' hSw; (try dsimp only at hSw); go_simp <;> with_reducible rfl
          simp only [Act.put, List.setIfInBounds_toArray, List.set_cons_zero, List.set_cons_succ]
          refine heldTake 11 (some 29) (v := ?_) rfl rfl (by kernel_rfl) (by kernel_rfl) (by kernel_rfl) (by rfl) hHeld (fun _ _ _ h => h) ?_ ?_
          rotate_left
          · intro w' hSw; (try dsimp only at hSw); go_simp <;> with_reducible rfl
          simp only [Act.put, List.setIfInBounds_toArray, List.set_cons_zero, List.set_cons_succ]
          refine heldTake 12 (some 30) (v := ?_) rfl rfl (by kernel_rfl) (by kernel_rfl) (by kernel_rfl) (by rfl) hHeld (fun _ _ _ h => h) ?_ ?_
          rotate_left
          · intro w' hSw; (try dsimp only at hSw); go_simp <;> with_reducible rfl
          simp only [Act.put, List.setIfInBounds_toArray, List.set_cons_zero, List.set_cons_succ]
          refine heldTake 13 (some 31) (v := ?_) rfl rfl (by kernel_rfl) (by kernel_rfl) (by kernel_rfl) (by rfl) hHeld (fun _ _ _ h => h) ?_ ?_
          rotate_left
          · intro w' hSw; (try dsimp only at hSw); have hH' := HoldsK.keep (HQ.out) (hSw.block blk (by omega)); have la := load_elem HK.out hH' (i := jp) (by omega); go_simp <;> with_reducible rfl
          simp only [Act.put, List.setIfInBounds_toArray, List.set_cons_zero, List.set_cons_succ]
          refine heldCall 14 (some 32) (f := ?_) (args := ?_) rfl rfl (by kernel_rfl) (by rfl) ?_ ?_
          rotate_left 2
          · go_simp <;> first | (constructor <;> with_reducible rfl) | with_reducible rfl
          (with_reducible refine hcq.mono ?_)
          rintro _ w2 ⟨rfl, hb2'⟩
          have hb2 : Below wr.heap.size wr w2 := Below.undrew hb2'
          have hs2 := hb2.size
          refine ⟨_, rfl, keepAnd ?_ (fun hNew => ?_)⟩
          · exact hb2
          clear hHeld
          have hHeld := hNew
          clear hNew
          simp only [Act.put, List.setIfInBounds_toArray, List.set_cons_zero, List.set_cons_succ]
          refine heldTake 15 (some 33) (v := ?_) rfl rfl (by kernel_rfl) (by kernel_rfl) (by kernel_rfl) (by rfl) hHeld (fun _ _ _ h => h) ?_ ?_
          rotate_left
          · intro w' hSw; (try dsimp only at hSw); go_simp <;> with_reducible rfl
          simp only [Act.put, List.setIfInBounds_toArray, List.set_cons_zero, List.set_cons_succ]
          refine heldTake 16 (some 34) (v := ?_) rfl rfl (by kernel_rfl) (by kernel_rfl) (by kernel_rfl) (by rfl) hHeld (fun _ _ _ h => h) ?_ ?_
          rotate_left
          · intro w' hSw; (try dsimp only at hSw); go_simp <;> with_reducible rfl
          simp only [Act.put, List.setIfInBounds_toArray, List.set_cons_zero, List.set_cons_succ]
          refine wpAnyH_done (by kernel_rfl) ?_ _
          refine NoPanic.normal ?_
          have hH2 : HoldsK enc k w2 blk off dj := HoldsK.keep HQ.out (hb2.block blk (by omega))
          have hC2 : Chg (· = blk) _ w2 := hCq.then_below hb2
          clear hcq hHeld
          by_cases hlv : cv < 0
          case pos =>
            have HL : Hid (ltOf cf dj[jp + 1]! dj[jp]! = true) := Lib.hid (by rw [ltOf, ← HCV.out]; exact decide_eq_true hlv)
            have hHd : HoldsK enc k w2.drew blk off dj := hH2
            obtain ⟨la, lb, s1, s2, hN, hCN⟩ := swap_facts HK.out H1.out hHd (i := jp + 1) (j := jp) (by omega) (by omega)
            have hsA : (enc dj[jp + 1]!).length = k := HK.out _
            have hsB : (enc dj[jp]!).length = k := HK.out _
            have HN := Lib.hid hN
            have HCN := Lib.hid hCN
            clear hN hCN hHd
            generalize enc dj[jp + 1]! = cA at la s2 hsA HN HCN
            generalize enc dj[jp]! = cB at lb s1 s2 hsB HN HCN
            go_wp2_with fail
            go_big_region_o
            all_goals go_wp2_with fail
            go_roundw
            case rel =>
              refine ⟨jp, swp dj (jp + 1) jp, by first | rfl | go_num | (congr 1; omega), by omega, by omega, by rw [size_swp]; exact hsj, HN, Lib.hid ?_, hC2.drew.trans HCN.out (fun _ _ h => h)⟩
              have := insInner_go (ltOf cf) a (jp + 1) dj hja (by simp only [Nat.add_sub_cancel]; exact HL.out)
              simp only [Nat.add_sub_cancel] at this
              rw [← HI.out, this]
            case measure => simp [RowKit.intOf]
          case neg =>
            have HL : Hid (ltOf cf dj[jp + 1]! dj[jp]! = false) := Lib.hid (by rw [ltOf, ← HCV.out]; exact decide_eq_false hlv)
            go_wp2_with fail
            go_roundw
            case rel => exact ⟨i + 1, dj, by go_num, by omega, by omega, hsj, Lib.hid hH2, OUT.out (.inr (by simp only [Nat.add_sub_cancel]; exact HL.out)), hC.trans hC2 (fun _ _ h => h)⟩
            case measure => simp [RowKit.intOf]; omega
        case neg =>
          have hjaz' : ¬ (a : Int) < (j : Int) := by omega
          go_wp2_with fail
          refine wp_region_noPanic ?_
          refine wp_region_held_drew (S := (fun w' => Below wr.heap.size wr w')) (by kernel_rfl) ?_ (fun hHeld => ?_)
          · exact (Below.refl _ _).drew
          refine heldTake 0 (some 18) (v := ?_) rfl rfl (by kernel_rfl) (by kernel_rfl) (by kernel_rfl) (by rfl) hHeld (fun _ _ _ h => h) ?_ ?_
          rotate_left
          · intro w' hSw; (try dsimp only at hSw); go_simp <;> with_reducible rfl
          simp only [Act.put, List.setIfInBounds_toArray, List.set_cons_zero, List.set_cons_succ]
          refine heldTake 1 (some 19) (v := ?_) rfl rfl (by kernel_rfl) (by kernel_rfl) (by kernel_rfl) (by rfl) hHeld (fun _ _ _ h => h) ?_ ?_
          rotate_left
          · intro w' hSw; (try dsimp only at hSw); go_simp <;> with_reducible rfl
          simp only [Act.put, List.setIfInBounds_toArray, List.set_cons_zero, List.set_cons_succ]
          refine heldTake 2 (some 20) (v := ?_) rfl rfl (by kernel_rfl) (by kernel_rfl) (by kernel_rfl) (by rfl) hHeld (fun _ _ _ h => h) ?_ ?_
          rotate_left
          · intro w' hSw; (try dsimp only at hSw); go_simp <;> with_reducible rfl
          simp only [Act.put, List.setIfInBounds_toArray, List.set_cons_zero, List.set_cons_succ]
          refine heldTake 3 (some 21) (v := ?_) rfl rfl (by kernel_rfl) (by kernel_rfl) (by kernel_rfl) (by rfl) hHeld (fun _ _ _ h => h) ?_ ?_
          rotate_left
          · intro w' hSw; (try dsimp only at hSw); go_simp <;> with_reducible rfl
          simp only [Act.put, List.setIfInBounds_toArray, List.set_cons_zero, List.set_cons_succ]
          refine heldSkip 4 (some 22) rfl rfl (by kernel_rfl) (by kernel_rfl) (by kernel_rfl) (by rfl) hHeld (fun _ _ _ h => h) ?_
          simp only [Act.put, List.setIfInBounds_toArray, List.set_cons_zero, List.set_cons_succ]
          refine heldSkip 5 (some 23) rfl rfl (by kernel_rfl) (by kernel_rfl) (by kernel_rfl) (by rfl) hHeld (fun _ _ _ h => h) ?_
          simp only [Act.put, List.setIfInBounds_toArray, List.set_cons_zero, List.set_cons_succ]
          refine heldSkip 6 (some 24) rfl rfl (by kernel_rfl) (by kernel_rfl) (by kernel_rfl) (by rfl) hHeld (fun _ _ _ h => h) ?_
          simp only [Act.put, List.setIfInBounds_toArray, List.set_cons_zero, List.set_cons_succ]
          refine heldSkip 7 (some 25) rfl rfl (by kernel_rfl) (by kernel_rfl) (by kernel_rfl) (by rfl) hHeld (fun _ _ _ h => h) ?_
          simp only [Act.put, List.setIfInBounds_toArray, List.set_cons_zero, List.set_cons_succ]
          refine heldSkip 8 (some 26) rfl rfl (by kernel_rfl) (by kernel_rfl) (by kernel_rfl) (by rfl) hHeld (fun _ _ _ h => h) ?_
          simp only [Act.put, List.setIfInBounds_toArray, List.set_cons_zero, List.set_cons_succ]
          refine heldSkip 9 (some 27) rfl rfl (by kernel_rfl) (by kernel_rfl) (by kernel_rfl) (by rfl) hHeld (fun _ _ _ h => h) ?_
          simp only [Act.put, List.setIfInBounds_toArray, List.set_cons_zero, List.set_cons_succ]
          refine heldSkip 10 (some 28) rfl rfl (by kernel_rfl) (by kernel_rfl) (by kernel_rfl) (by rfl) hHeld (fun _ _ _ h => h) ?_
          simp only [Act.put, List.setIfInBounds_toArray, List.set_cons_zero, List.set_cons_succ]
          refine heldSkip 11 (some 29) rfl rfl (by kernel_rfl) (by kernel_rfl) (by kernel_rfl) (by rfl) hHeld (fun _ _ _ h => h) ?_
          simp only [Act.put, List.setIfInBounds_toArray, List.set_cons_zero, List.set_cons_succ]
          refine heldSkip 12 (some 30) rfl rfl (by kernel_rfl) (by kernel_rfl) (by kernel_rfl) (by rfl) hHeld (fun _ _ _ h => h) ?_
          simp only [Act.put, List.setIfInBounds_toArray, List.set_cons_zero, List.set_cons_succ]
          refine heldSkip 13 (some 31) rfl rfl (by kernel_rfl) (by kernel_rfl) (by kernel_rfl) (by rfl) hHeld (fun _ _ _ h => h) ?_
          simp only [Act.put, List.setIfInBounds_toArray, List.set_cons_zero, List.set_cons_succ]
          refine heldSkip 14 (some 32) rfl rfl (by kernel_rfl) (by kernel_rfl) (by kernel_rfl) (by rfl) hHeld (fun _ _ _ h => h) ?_
          simp only [Act.put, List.setIfInBounds_toArray, List.set_cons_zero, List.set_cons_succ]
          refine heldSkip 15 (some 33) rfl rfl (by kernel_rfl) (by kernel_rfl) (by kernel_rfl) (by rfl) hHeld (fun _ _ _ h => h) ?_
          simp only [Act.put, List.setIfInBounds_toArray, List.set_cons_zero, List.set_cons_succ]
          refine heldTake 16 (some 34) (v := ?_) rfl rfl (by kernel_rfl) (by kernel_rfl) (by kernel_rfl) (by rfl) hHeld (fun _ _ _ h => h) ?_ ?_
          rotate_left
          · intro w' hSw; (try dsimp only at hSw); go_simp <;> with_reducible rfl
          simp only [Act.put, List.setIfInBounds_toArray, List.set_cons_zero, List.set_cons_succ]
          refine wpAnyH_done (by kernel_rfl) ?_ _
          refine NoPanic.normal ?_
          go_wp2_with fail
          go_roundw
          case rel => exact ⟨i + 1, dj, by go_num, by omega, by omega, hsj, HQ, OUT.out (.inl (by omega)), hC.trans hCq.drew (fun _ _ h => h)⟩
          case measure => simp [RowKit.intOf]; omega
    case neg =>
      go_wp2_with fail
      go_end0
      exact ⟨rfl, by unfold Sort.insertionSort; rw [← HO.out, insOuter_stop _ _ _ _ _ hlt]; exact HR.out, hC⟩
end Go.Proofs.Ytkhmjlahlcighaa
