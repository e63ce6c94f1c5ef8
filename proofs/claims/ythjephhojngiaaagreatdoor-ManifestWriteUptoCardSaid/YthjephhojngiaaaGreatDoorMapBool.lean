/-
  A map from strings to bools.
-/
import Derived.Test.YthjephhojngiaaaGreatDoorDisk
namespace Go.Proofs.YthjephhojngiaaaGreatDoor
open Go.RowKit Go.Lib Go.IntWalk Go.Maps

theorem zeroBl (w : World) : (zeroValue 4).run Tryz.prog w = .ok (.bool false) w := by kernel_rfl
theorem MapIs.lookB {w : World} {M n : Nat} {g : List UInt8 → Option Value} (h : MapIs w M n g) (key : List UInt8) (hk : key.length ≤ maxLen) :
    (Instr.lookup 116 (.map (some M)) (.string (strB key)) false).run Tryz.prog w = .ok ((g key).getD (.bool false)) w := by
  obtain ⟨D, h, h1, h2⟩ := h
  obtain ⟨v, ps, hr, hv⟩ := h.lookup lawS Tryz.underlying116 (zeroBl w) (zd := .held (.bool false)) (zp := []) rfl (keyS key hk)
  rw [h2] at hv
  simp only [heldE, Option.some.injEq, Prod.mk.injEq, DataW.held.injEq] at hv
  rw [hr, hv.1]
theorem MapIs.storeB {w : World} {M n : Nat} {g : List UInt8 → Option Value} (h : MapIs w M n g) (key : List UInt8) (hk : key.length ≤ maxLen) (hn : n < maxLen) (v : Value) :
    ∃ w', (Instr.mapUpdate 116 (.map (some M)) (.string (strB key)) v).run Tryz.prog w = .ok () w' ∧ MapIs w' M (n + 1) (updG g key (some v)) ∧ Chg (· = M) w w' := by
  obtain ⟨D, h, h1, h2⟩ := h
  obtain ⟨w', hr, ho, ht⟩ := h.store lawS Tryz.underlying116 hn (keyS key hk) (val := v) (d := .held v) (ps := []) rfl
  refine ⟨w', hr, ⟨_, ho, fun x => ?_, fun x z => ?_⟩, (Chg.of_grown ht.grown).mono fun i hi => Option.some.inj hi⟩
  · by_cases hx : x = key
    · subst hx; rw [has_put_same h.isMap (keyLit x), updG, if_pos rfl]; rfl
    · rw [has_put_other (by simpa using hx), updG, if_neg hx]; exact h1 x
  · by_cases hx : x = key
    · subst hx; rw [atKey_put_same h.isMap (keyLit x), updG, if_pos rfl]; rfl
    · rw [atKey_put_other (by simpa using hx), updG, if_neg hx]; exact h2 x z
section
variable {w : World} {ops : Array Oper} {rest : List Oper} {o : Oper} {a : Act} {K : Act → World → Prop} {Q : Exit → Act → World → Prop}
theorem wp_mputB (m x v : Operand) (hop : o.op = Op.mapUpdate 116 m x v) (M n : Nat) (g : List UInt8 → Option Value) (hm : a.eval m = .map (some M)) (h : MapIs w M n g) (hn : n < maxLen)
    (key : List UInt8) (hk : key.length ≤ maxLen) (hx : a.eval x = .string (strB key)) (val : Value) (hv : a.eval v = val)
    (hK : ∀ w', MapIs w' M (n + 1) (updG g key (some val)) → Chg (· = M) w w' → K (a.put o.dst undef) w') : o.wp Tryz.prog a w K Q := by
  obtain ⟨w', hrun, r1, r2⟩ := h.storeB key hk hn val
  unfold Oper.wp
  simp [execOp, hop, hm, hx, hv, hrun, Result.andThen]
  exact hK w' r1 r2
theorem wpList_mputB (hg : o.guard = none) (m x v : Operand) (hop : o.op = Op.mapUpdate 116 m x v) (M n : Nat) (g : List UInt8 → Option Value) (hm : a.eval m = .map (some M)) (h : MapIs w M n g) (hn : n < maxLen)
    (key : List UInt8) (hk : key.length ≤ maxLen) (hx : a.eval x = .string (strB key)) (val : Value) (hv : a.eval v = val)
    (hK : ∀ w', MapIs w' M (n + 1) (updG g key (some val)) → Chg (· = M) w w' → wpList Tryz.prog ops Q rest (a.put o.dst undef) w') : wpList Tryz.prog ops Q (o :: rest) a w :=
  wpList_plain hg fun _ hK' => wp_mputB m x v hop M n g hm h hn key hk hx val hv fun w' r1 r2 => hK' _ _ (hK w' r1 r2)
end
end Go.Proofs.YthjephhojngiaaaGreatDoor
