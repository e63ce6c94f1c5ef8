/-
  append onto a slice of bytes, in few words. Plain lemmas.
-/
import Derived.Test.YtooojgokkigncaaBytes
import Derived.Test.YtooojgokkigncaaMem2
namespace Go.Proofs.Ytooojgokkigncaa
open Go.RowKit Go.Lib

theorem appB_of {w : World} {base : Nat} {v : Value} {l m : List UInt8} (h : App w base 5 1 v (l.length + m.length) (bv l ++ bv m)) : AppB w base v (l ++ m) := by
  unfold AppB; rw [bv_append, List.length_append]; exact h
theorem ownB_of {w : World} {base : Nat} {v : Value} {l m : List UInt8} (h : w.ownsRow base 5 1 v (l.length + m.length) (bv l ++ bv m)) : OwnB w base v (l ++ m) := by
  unfold OwnB; rw [bv_append, List.length_append]; exact h
/-- the bytes that a literal of bytes has laid -/
theorem rdB_new (w : World) (H : Nat) (hH : w.heap.size = H) (m : List UInt8) (n : Nat) (hn : m.length = n) (hm : n ≤ 1000) : RdB (w.alloc (.cells (bv m).toArray 5)) (· = H) (.slice (some ⟨H, 0, none⟩) n n) m := by
  subst hn
  exact Rd.new' w H hH (bv m) 5 1 m.length (by rw [bv_length, Nat.mul_one]) (by simp only [maxLen]; omega)

section
variable {w : World} {ops : Array Oper} {rest : List Oper} {o : Oper} {a : Act} {K : Act → World → Prop} {Q : Exit → Act → World → Prop}
theorem wp_append_b (s x : Operand) (ho : o.op = .call { callee := .builtin .append, args := #[s, x], argTypes := #[23, 23] })
    (base : Nat) (v : Value) (l : List UInt8) (hs : a.eval s = v) (hO : OwnB w base v l) (F : Nat → Prop) (xv : Value) (m : List UInt8) (hx : a.eval x = xv) (hr : RdB w F xv m)
    (hl : l.length + m.length ≤ 140737488355328) (hb : base ≤ w.heap.size)
    (h : ∀ v' w', OwnB w' base v' (l ++ m) → Below base w w' → w.grownBy w' v.ownBlock → (v'.ownBlock = v.ownBlock ∨ v'.ownBlock = some w.heap.size) → K (a.put o.dst v') w') : o.wp Try.prog a w K Q := by
  obtain ⟨i0, hi, hz0, hz1, hz2⟩ := info_parts infoB
  exact wp_append_app w s x 23 ho base 5 i0 _ 1 1 Try.underlying23 hi hz0 hz1 hz2 rfl (by omega) v l.length (bv l) hs (.inl hO) F xv m.length (bv m) hx hr (bv_one _) (by simp only [maxLen]; omega) (by omega) hb
    fun v' w' _ h2 h3 h4 h5 => h v' w' (ownB_of (h2 (.inr hO))) h4 h3 h5
theorem wpList_append_b (hgd : o.guard = none) (s x : Operand) (ho : o.op = .call { callee := .builtin .append, args := #[s, x], argTypes := #[23, 23] })
    (base : Nat) (v : Value) (l : List UInt8) (hs : a.eval s = v) (hO : OwnB w base v l) (F : Nat → Prop) (xv : Value) (m : List UInt8) (hx : a.eval x = xv) (hr : RdB w F xv m)
    (hl : l.length + m.length ≤ 140737488355328) (hb : base ≤ w.heap.size)
    (h : ∀ v' w', OwnB w' base v' (l ++ m) → Below base w w' → w.grownBy w' v.ownBlock → (v'.ownBlock = v.ownBlock ∨ v'.ownBlock = some w.heap.size) → wpList Try.prog ops Q rest (a.put o.dst v') w') : wpList Try.prog ops Q (o :: rest) a w :=
  wpList_plain hgd fun _ hK => wp_append_b s x ho base v l hs hO F xv m hx hr hl hb fun v' w' h2 h3 h4 h5 => hK _ _ (h v' w' h2 h3 h4 h5)
theorem step_append_b {E : Prop} (hgd : o.guard = none) (s x : Operand) (ho : o.op = .call { callee := .builtin .append, args := #[s, x], argTypes := #[23, 23] })
    (base : Nat) (v : Value) (l : List UInt8) (hs : a.eval s = v) (hO : OwnB w base v l) (F : Nat → Prop) (xv : Value) (m : List UInt8) (hx : a.eval x = xv) (hr : RdB w F xv m)
    (hl : l.length + m.length ≤ 140737488355328) (hb : base ≤ w.heap.size)
    (h : ∀ v' w', OwnB w' base v' (l ++ m) → Below base w w' → w.grownBy w' v.ownBlock → (v'.ownBlock = v.ownBlock ∨ v'.ownBlock = some w.heap.size) → K (a.put o.dst v') w') :
    if Region.wanted o (yielded ops a.tmps) = true then Oper.wp Try.prog o a w K Q else E := by
  have hw : Region.wanted o (yielded ops a.tmps) = true := by simp [Region.wanted, hgd]
  rw [if_pos hw]
  exact wp_append_b s x ho base v l hs hO F xv m hx hr hl hb h
theorem wp_append_bs (s x : Operand) (ho : o.op = .call { callee := .builtin .append, args := #[s, x], argTypes := #[23, 9] })
    (base : Nat) (v : Value) (l : List UInt8) (hs : a.eval s = v) (hO : OwnB w base v l) (str : ByteArray) (hx : a.eval x = .string str)
    (hl : l.length + str.size ≤ 140737488355328) (hb : base ≤ w.heap.size)
    (h : ∀ v' w', OwnB w' base v' (l ++ str.data.toList) → Below base w w' → w.grownBy w' v.ownBlock → K (a.put o.dst v') w') : o.wp Try.prog a w K Q := by
  obtain ⟨i0, hi, hz0, hz1, hz2⟩ := info_parts infoB
  obtain ⟨v', w', hr, h2, h3, h4⟩ := run_append_own_string (P := Try.prog) w base 23 9 o.type 5 i0 Try.underlying23 Try.underlying9 hi hz0 hz1 hz2 v l.length (bv l) hO str (by simp only [maxLen]; omega) hl hb
  unfold Oper.wp execOp
  simp only [ho, resolve, invoke, builtin, Sem.run_bind, Sem.run_pure, Result.andThen_ok, List.map_toArray, List.map_cons, List.map_nil, hs, hx, hr]
  refine h v' w' (ownB_of ?_) ((Below.refl _ _).grown h3 hb fun k hk => (hO.lt k hk).1) h3
  have e : str.data.toList.length = str.size := by rw [Array.length_toList]; rfl
  rw [e]
  exact h2
theorem wpList_append_bs (hgd : o.guard = none) (s x : Operand) (ho : o.op = .call { callee := .builtin .append, args := #[s, x], argTypes := #[23, 9] })
    (base : Nat) (v : Value) (l : List UInt8) (hs : a.eval s = v) (hO : OwnB w base v l) (str : ByteArray) (hx : a.eval x = .string str)
    (hl : l.length + str.size ≤ 140737488355328) (hb : base ≤ w.heap.size)
    (h : ∀ v' w', OwnB w' base v' (l ++ str.data.toList) → Below base w w' → w.grownBy w' v.ownBlock → wpList Try.prog ops Q rest (a.put o.dst v') w') : wpList Try.prog ops Q (o :: rest) a w :=
  wpList_plain hgd fun _ hK => wp_append_bs s x ho base v l hs hO str hx hl hb fun v' w' h2 h3 h4 => hK _ _ (h v' w' h2 h3 h4)
theorem step_append_bs {E : Prop} (hgd : o.guard = none) (s x : Operand) (ho : o.op = .call { callee := .builtin .append, args := #[s, x], argTypes := #[23, 9] })
    (base : Nat) (v : Value) (l : List UInt8) (hs : a.eval s = v) (hO : OwnB w base v l) (str : ByteArray) (hx : a.eval x = .string str)
    (hl : l.length + str.size ≤ 140737488355328) (hb : base ≤ w.heap.size)
    (h : ∀ v' w', OwnB w' base v' (l ++ str.data.toList) → Below base w w' → w.grownBy w' v.ownBlock → K (a.put o.dst v') w') :
    if Region.wanted o (yielded ops a.tmps) = true then Oper.wp Try.prog o a w K Q else E := by
  have hw : Region.wanted o (yielded ops a.tmps) = true := by simp [Region.wanted, hgd]
  rw [if_pos hw]
  exact wp_append_bs s x ho base v l hs hO str hx hl hb h
end
theorem OwnB.alloc {w : World} {base : Nat} {v : Value} {l : List UInt8} (h : OwnB w base v l) (o : Obj) : OwnB (w.alloc o) base v l := World.ownsRow.alloc h o
theorem OwnB.drew {w : World} {base : Nat} {v : Value} {l : List UInt8} (h : OwnB w base v l) : OwnB w.drew base v l := h
theorem OwnB.nil (w : World) (base : Nat) : OwnB w base (.slice none 0 0) [] := World.ownsRow_nil w _ _ _
end Go.Proofs.Ytooojgokkigncaa
