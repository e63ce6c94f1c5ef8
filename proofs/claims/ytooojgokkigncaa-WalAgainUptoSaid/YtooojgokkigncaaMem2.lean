/-
  append at a step of a region whose order is open. Plain lemmas.
-/
import Derived.Test.YtooojgokkigncaaMem
namespace Go.Proofs.Ytooojgokkigncaa
open Go.RowKit Go.Lib

section
variable {P : Program} (w : World)
theorem step_append_app {ops : Array Oper} {o : Oper} {a : Act} {K : Act → World → Prop} {Q : Exit → Act → World → Prop} {E : Prop} (hgd : o.guard = none) (s x : Operand) (t : TypeId)
    (ho : o.op = .call { callee := .builtin .append, args := #[s, x], argTypes := #[t, t] })
    (base : Nat) (e : TypeId) (i : TypeInfo) (z : Value) (size bytes : Nat) (ht : P.underlying t = some (.slice e)) (hi : P.info? e = some i) (hz : i.zero = some z)
    (hsize : i.size = size) (hby : i.bytes = bytes) (hzs : z.cells.size = size) (hsz : 0 < size)
    (v : Value) (n : Nat) (cs : List Value) (hs : a.eval s = v) (hd : App w base e size v n cs)
    (F : Nat → Prop) (xv : Value) (m : Nat) (news : List Value) (hx : a.eval x = xv) (hr : Rd w F size xv m news) (h1 : ∀ u ∈ news, u.oneCell' = true)
    (h63 : n + m ≤ maxLen) (hbytes : (n + m) * bytes ≤ 140737488355328) (hbase : base ≤ w.heap.size)
    (h : ∀ v' w', App w' base e size v' (n + m) (cs ++ news) → (0 < m ∨ w.ownsRow base e size v n cs → w'.ownsRow base e size v' (n + m) (cs ++ news)) → w.grownBy w' v.ownBlock → Below base w w' →
      (v'.ownBlock = v.ownBlock ∨ v'.ownBlock = some w.heap.size) → K (a.put o.dst v') w') :
    if Region.wanted o (yielded ops a.tmps) = true then Oper.wp P o a w K Q else E := by
  have hw : Region.wanted o (yielded ops a.tmps) = true := by simp [Region.wanted, hgd]
  rw [if_pos hw]
  exact wp_append_app w s x t ho base e i z size bytes ht hi hz hsize hby hzs hsz v n cs hs hd F xv m news hx hr h1 h63 hbytes hbase h
theorem step_append_str {ops : Array Oper} {o : Oper} {a : Act} {K : Act → World → Prop} {Q : Exit → Act → World → Prop} {E : Prop} (hgd : o.guard = none) (sl x : Operand) (t u : TypeId)
    (ho : o.op = .call { callee := .builtin .append, args := #[sl, x], argTypes := #[t, u] })
    (base : Nat) (e : TypeId) (i : TypeInfo) (ht : P.underlying t = some (.slice e)) (hu : P.underlying u = some .string) (hi : P.info? e = some i) (hz : i.zero = some (.int .u8 0))
    (hsize : i.size = 1) (hby : i.bytes = 1)
    (v : Value) (n : Nat) (xs : List Value) (hs : a.eval sl = v) (hown : w.ownsRow base e 1 v n xs) (s : ByteArray) (hx : a.eval x = .string s)
    (h63 : n + s.size ≤ maxLen) (hbytes : n + s.size ≤ 140737488355328) (hbase : base ≤ w.heap.size)
    (h : ∀ v' w', w'.ownsRow base e 1 v' (n + s.size) (xs ++ strCells s) → w.grownBy w' v.ownBlock → K (a.put o.dst v') w') :
    if Region.wanted o (yielded ops a.tmps) = true then Oper.wp P o a w K Q else E := by
  have hw : Region.wanted o (yielded ops a.tmps) = true := by simp [Region.wanted, hgd]
  rw [if_pos hw]
  obtain ⟨v', w', hr, h2, h3, h4⟩ := run_append_own_string (P := P) w base t u o.type e i ht hu hi hz hsize hby v n xs hown s h63 hbytes hbase
  unfold Oper.wp execOp
  simp only [ho, resolve, invoke, builtin, Sem.run_bind, Sem.run_pure, Result.andThen_ok, List.map_toArray, List.map_cons, List.map_nil, hs, hx, hr]
  exact h v' w' h2 h3
end
theorem App.drew {w : World} {base : Nat} {e : TypeId} {size n : Nat} {v : Value} {cs : List Value} (h : App w base e size v n cs) : App w.drew base e size v n cs := h
theorem Rd.drew {w : World} {F : Nat → Prop} {size n : Nat} {v : Value} {cs : List Value} (h : Rd w F size v n cs) : Rd w.drew F size v n cs := h
theorem own_drew {w : World} {base : Nat} {e : TypeId} {size n : Nat} {v : Value} {cs : List Value} (h : w.ownsRow base e size v n cs) : w.drew.ownsRow base e size v n cs := h
theorem Rd.new' (w : World) (H : Nat) (hH : w.heap.size = H) (l : List Value) (e : TypeId) (size n : Nat) (hl : l.length = n * size) (hn : n ≤ maxLen) : Rd (w.alloc (.cells l.toArray e)) (· = H) size (.slice (some ⟨H, 0, none⟩) n n) n l := by
  subst hH
  exact Rd.new w l e size n hl hn
theorem grown_cell {w w' : World} {row : Option Nat} (h : w.grownBy w' row) {p : Addr} (hp : p.block < w.heap.size) (hne : some p.block ≠ row) : w'.cell? p = w.cell? p := World.cell?_of_block (h.block p.block hp hne)
theorem own_ne {w : World} {base : Nat} {e : TypeId} {size n : Nat} {v : Value} {cs : List Value} (h : w.ownsRow base e size v n cs) {b : Nat} (hb : b < base) : some b ≠ v.ownBlock := fun e => by have := (h.lt b e.symm).1; omega
theorem Rd.plain {w : World} {F : Nat → Prop} {size n : Nat} {cs : List Value} {A : Option Addr} {c : Nat} (h : Rd w F size (.slice A n c) n cs) (hn : 0 < n) (hs : 0 < size) :
    ∃ b off, A = some ⟨b, off, none⟩ ∧ F b ∧ ∀ j u, cs[j]? = some u → w.cell? ⟨b, off + j, none⟩ = some u := by
  obtain ⟨ad, rfl, hF, hc⟩ := Rd.at_ h hn
  obtain ⟨b, off, sp⟩ := ad
  have hl : 0 < cs.length := by rw [h.1]; exact Nat.mul_pos hn hs
  have h0 := hc 0 _ (List.getElem?_eq_getElem hl)
  rw [add_zero'] at h0
  have hsp : sp = none := by
    cases sp with
    | none => rfl
    | some q =>
      simp only [World.cell?] at h0
      split at h0 <;> simp at h0
  subst hsp
  refine ⟨b, off, rfl, hF, fun j u hu => ?_⟩
  have := hc j u hu
  unfold Addr.add at this
  split at this
  · rename_i hj; subst hj; exact this
  · exact this
theorem box_cell (w : World) (cs : Array Value) (e : TypeId) (j : Nat) {u : Value} (h : cs[j]? = some u) : (w.alloc (.cells cs e)).cell? ⟨w.heap.size, j, none⟩ = some u :=
  (cell_of_row _ w.heap.size j cs e (0, 0) (heap_alloc_new w _)).trans h
theorem keepBox {W w1 : World} {row : Option Nat} {b : Nat} (hg : W.grownBy w1 row) (hne : some b ≠ row) (hb : b < W.heap.size) : ∀ o, w1.cell? ⟨b, o, none⟩ = W.cell? ⟨b, o, none⟩ :=
  fun _ => World.cell?_of_block (hg.block b hb hne)
theorem ne_step {b H : Nat} {v v' : Value} (hne : some b ≠ v.ownBlock) (ha : v'.ownBlock = v.ownBlock ∨ v'.ownBlock = some H) (hb : b ≠ H) : some b ≠ v'.ownBlock := by
  rcases ha with e | e <;> rw [e]
  · exact hne
  · intro h; injection h with h; exact hb h
theorem own_ne_new {w : World} {base : Nat} {e : TypeId} {size n : Nat} {v : Value} {cs : List Value} (h : w.ownsRow base e size v n cs) : some w.heap.size ≠ v.ownBlock := fun e => by have := (h.lt _ e.symm).2; omega
theorem own_alloc {w : World} {base : Nat} {e : TypeId} {size n : Nat} {v : Value} {cs : List Value} (h : w.ownsRow base e size v n cs) (o : Obj) : (w.alloc o).ownsRow base e size v n cs := h.alloc o
end Go.Proofs.Ytooojgokkigncaa
