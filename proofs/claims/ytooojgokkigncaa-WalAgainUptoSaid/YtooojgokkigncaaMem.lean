/-
  What a slice reads as, and append: plain lemmas on worlds, for any program. No statement of the seat is proved here.
-/
import Derived.WalkKit
import Derived.WalkSpells
import Derived.Maps.AppendAt
import Derived.ArgAppend
import Derived.Lib.AppendStr
import Derived.Lib.Hide
import Derived.Deep.Draws
namespace Go.Proofs.Ytooojgokkigncaa
open Go.RowKit

theorem block_add (a : Addr) (n : Nat) : (a.add n).block = a.block := by unfold Addr.add; split <;> rfl
theorem add_add' (a : Addr) (i j : Nat) : (a.add i).add j = a.add (i + j) := by
  unfold Addr.add
  by_cases hi : i = 0 <;> by_cases hj : j = 0 <;> simp [hi, hj, Nat.add_assoc]
theorem add_zero' (a : Addr) : a.add 0 = a := by simp [Addr.add]

/-- 'v' is a slice of n elements, 'size' cells each, that reads cs; its cells lie in a block of which F holds. -/
def Rd (w : World) (F : Nat → Prop) (size : Nat) (v : Value) (n : Nat) (cs : List Value) : Prop :=
  cs.length = n * size ∧ ∃ A c, v = .slice A n c ∧ n ≤ c ∧ c ≤ maxLen ∧ (A = none → c = 0) ∧
    (0 < n → ∃ ad : Addr, A = some ad ∧ F ad.block ∧ ∀ j u, cs[j]? = some u → w.cell? (ad.add j) = some u)

def Keeps (F : Nat → Prop) (w w' : World) : Prop := ∀ b, F b → w'.heap[b]? = w.heap[b]?

theorem Keeps.refl (F : Nat → Prop) (w : World) : Keeps F w w := fun _ _ => rfl
theorem Keeps.trans {F : Nat → Prop} {a b c : World} (h : Keeps F a b) (k : Keeps F b c) : Keeps F a c := fun i hi => (k i hi).trans (h i hi)
theorem Keeps.mono {F G : Nat → Prop} {a b : World} (h : Keeps F a b) (k : ∀ i, G i → F i) : Keeps G a b := fun i hi => h i (k i hi)
theorem Keeps.below {B : Nat} {w w' : World} (h : Below B w w') : Keeps (· < B) w w' := fun b hb => h.block b hb

section
variable {w w' : World} {F G : Nat → Prop} {size n : Nat} {v : Value} {cs : List Value}
theorem Rd.len (h : Rd w F size v n cs) : cs.length = n * size := h.1
theorem Rd.keep (h : Rd w F size v n cs) (hk : Keeps F w w') : Rd w' F size v n cs := by
  obtain ⟨h1, A, c, hv, h2, h3, h4, h5⟩ := h
  refine ⟨h1, A, c, hv, h2, h3, h4, fun hn => ?_⟩
  obtain ⟨ad, e, hb, hc⟩ := h5 hn
  exact ⟨ad, e, hb, fun j u hu => (World.cell?_of_block (w := w) (hk _ (by rw [block_add]; exact hb))).trans (hc j u hu)⟩
theorem Rd.wide (h : Rd w F size v n cs) (hk : ∀ b, F b → G b) : Rd w G size v n cs := by
  obtain ⟨h1, A, c, hv, h2, h3, h4, h5⟩ := h
  refine ⟨h1, A, c, hv, h2, h3, h4, fun hn => ?_⟩
  obtain ⟨ad, e, hb, hc⟩ := h5 hn
  exact ⟨ad, e, hk _ hb, hc⟩
theorem Rd.below {B : Nat} (h : Rd w (· < B) size v n cs) (hb : Below B w w') : Rd w' (· < B) size v n cs := h.keep (Keeps.below hb)
theorem Rd.nil (w : World) (F : Nat → Prop) (size : Nat) : Rd w F size (.slice none 0 0) 0 [] :=
  ⟨by simp, none, 0, rfl, Nat.le_refl _, Nat.zero_le _, fun _ => rfl, fun h => absurd h (by omega)⟩
theorem Rd.nonneg (h : Rd w F size v n cs) : n ≤ maxLen := by
  obtain ⟨h1, A, c, hv, h2, h3, h4, h5⟩ := h; omega
/-- the parts that a walk wants -/
theorem Rd.open_ (h : Rd w F size v n cs) : ∃ A c, v = .slice A n c ∧ n ≤ c ∧ c ≤ maxLen ∧ (A = none → c = 0) := by
  obtain ⟨h1, A, c, hv, h2, h3, h4, h5⟩ := h; exact ⟨A, c, hv, h2, h3, h4⟩
theorem Rd.at_ {A : Option Addr} {c : Nat} (h : Rd w F size (.slice A n c) n cs) (hn : 0 < n) : ∃ ad : Addr, A = some ad ∧ F ad.block ∧ ∀ j u, cs[j]? = some u → w.cell? (ad.add j) = some u := by
  obtain ⟨h1, A', c', hv, h2, h3, h4, h5⟩ := h
  injection hv with e1 e2 e3
  subst e1
  exact h5 hn
theorem Rd.of_own {base : Nat} {e : TypeId} (h : w.ownsRow base e size v n cs) : Rd w (fun b => base ≤ b ∧ b < w.heap.size) size v n cs := by
  refine ⟨h.1, ?_⟩
  rcases h.2 with ⟨rfl, rfl⟩ | ⟨g, cap, cur, rfl, hb, hg, hnc, hcm, hcs, htake⟩
  · exact ⟨none, 0, rfl, Nat.le_refl _, Nat.zero_le _, fun _ => rfl, fun h => absurd h (by omega)⟩
  · exact ⟨_, cap, rfl, hnc, hcm, fun h => (Option.some_ne_none _ h).elim, fun _ => ⟨_, rfl, ⟨hb, (Array.getElem?_eq_some_iff.1 hg).1⟩, h.cells (g := g) rfl⟩⟩
theorem Rd.of_own' {base : Nat} {e : TypeId} (h : w.ownsRow base e size v n cs) : Rd w (fun b => v.ownBlock = some b) size v n cs := by
  refine ⟨h.1, ?_⟩
  rcases h.2 with ⟨rfl, rfl⟩ | ⟨g, cap, cur, rfl, hb, hg, hnc, hcm, hcs, htake⟩
  · exact ⟨none, 0, rfl, Nat.le_refl _, Nat.zero_le _, fun _ => rfl, fun h => absurd h (by omega)⟩
  · exact ⟨_, cap, rfl, hnc, hcm, fun h => (Option.some_ne_none _ h).elim, fun _ => ⟨_, rfl, rfl, h.cells (g := g) rfl⟩⟩
/-- s[l:h] (and s[l:h:m]): what the model gives, whatever the capacity. -/
theorem Rd.cut {A : Option Addr} {c l h m : Nat} (hr : Rd w F size (.slice A n c) n cs) (h1 : l ≤ h) (h2 : h ≤ n) (h3 : h ≤ m) (h4 : m ≤ c) :
    Rd w F size (.slice (if m = l then A else A.map (·.add (l * size))) (h - l) (m - l)) (h - l) ((cs.drop (l * size)).take ((h - l) * size)) := by
  obtain ⟨e1, A', c', hv, hc, hm, hA, hcell⟩ := hr
  injection hv with q1 q2 q3
  subst q1; subst q3
  refine ⟨?_, _, _, rfl, by omega, by omega, ?_, fun hn => ?_⟩
  · rw [List.length_take, List.length_drop, e1]
    have : (h - l) * size ≤ n * size - l * size := by rw [← Nat.sub_mul]; exact Nat.mul_le_mul_right _ (by omega)
    omega
  · intro hnone
    by_cases hml : m = l
    · omega
    · rw [if_neg hml] at hnone
      have := hA (by simpa using hnone)
      omega
  · obtain ⟨ad, rfl, hb, hx⟩ := hcell (by omega)
    rw [if_neg (by omega)]
    refine ⟨ad.add (l * size), rfl, by rw [block_add]; exact hb, fun j u hu => ?_⟩
    rw [add_add']
    rw [List.getElem?_take] at hu
    split at hu
    · rw [List.getElem?_drop] at hu
      exact hx _ u hu
    · cases hu
end

/-- a slice that may be appended to: a row of the call's own, or one without spare room whose cells lie below the call's own blocks -/
def App (w : World) (base : Nat) (e : TypeId) (size : Nat) (v : Value) (n : Nat) (cs : List Value) : Prop :=
  w.ownsRow base e size v n cs ∨ (Rd w (· < base) size v n cs ∧ ∃ A, v = .slice A n n)

theorem App.rd {w : World} {base : Nat} {e : TypeId} {size n : Nat} {v : Value} {cs : List Value} (h : App w base e size v n cs) (hb : base ≤ w.heap.size) : Rd w (· < w.heap.size) size v n cs := by
  rcases h with h | ⟨h, _⟩
  · exact (Rd.of_own h).wide fun b hb => hb.2
  · exact h.wide fun b h' => by omega

section
variable {P : Program} (w : World)

theorem run_append_zero (t ty e : TypeId) (i : TypeInfo) (ht : P.underlying t = some (.slice e)) (hi : P.info? e = some i)
    (A X : Option Addr) (n cap c : Nat) (hnc : n ≤ cap) : (Builtin.append_ #[t, t] ty #[.slice A n cap, .slice X 0 c]).run P w = .ok (.slice A n cap) w := by
  cases A <;> cases X <;> simp [Builtin.append_, run_underlying ht, sizeOf, typeInfo, hi, Builtin.lenOf, Builtin.firstCells, hnc, storeCells, loadCells, loadCellsFrom]

theorem run_append_app (base : Nat) (t ty e : TypeId) (i : TypeInfo) (z : Value) (size bytes : Nat) (ht : P.underlying t = some (.slice e)) (hi : P.info? e = some i) (hz : i.zero = some z)
    (hsize : i.size = size) (hby : i.bytes = bytes) (hzs : z.cells.size = size) (hsz : 0 < size)
    (v : Value) (n : Nat) (cs : List Value) (hd : App w base e size v n cs)
    (F : Nat → Prop) (x : Value) (m : Nat) (news : List Value) (hr : Rd w F size x m news) (h1 : ∀ u ∈ news, u.oneCell' = true)
    (h63 : n + m ≤ maxLen) (hbytes : (n + m) * bytes ≤ 140737488355328) (hbase : base ≤ w.heap.size) :
    ∃ v' w', (Builtin.append_ #[t, t] ty #[v, x]).run P w = .ok v' w' ∧ App w' base e size v' (n + m) (cs ++ news) ∧ (0 < m ∨ w.ownsRow base e size v n cs → w'.ownsRow base e size v' (n + m) (cs ++ news)) ∧
      w.grownBy w' v.ownBlock ∧ Below base w w' ∧ (v'.ownBlock = v.ownBlock ∨ v'.ownBlock = some w.heap.size) := by
  obtain ⟨hl, X, c, rfl, hmc, hcm, hX, hcell⟩ := hr
  rcases Nat.eq_zero_or_pos m with h0 | h0
  · subst h0
    have hn : news = [] := List.eq_nil_of_length_eq_zero (by simpa using hl)
    subst hn
    have hvform : ∃ A cap, v = .slice A n cap ∧ n ≤ cap := by
      rcases hd with hd | ⟨_, A, hA⟩
      · rcases hd.2 with ⟨rfl, rfl⟩ | ⟨g, cap, cur, rfl, _, _, hnc, _⟩
        · exact ⟨_, _, rfl, Nat.le_refl _⟩
        · exact ⟨_, _, rfl, hnc⟩
      · exact ⟨A, n, hA, Nat.le_refl _⟩
    obtain ⟨A, cap, rfl, hnc⟩ := hvform
    exact ⟨_, w, run_append_zero w t ty e i ht hi A X n cap c hnc, by simpa using hd, fun h => by rcases h with h | h; (exact absurd h (by omega)); simpa using h, World.grownBy.refl w _, Below.refl _ _, .inl rfl⟩
  · obtain ⟨ad, rfl, hF, hnews⟩ := hcell h0
    rcases hd with hd | ⟨hd, A, hA⟩
    · obtain ⟨v', w', hrun, h2, h3, _, h5⟩ := run_append_own_at (P := P) w base t ty e i z size bytes ht hi hz hsize hby hzs hsz v n cs hd ad m c news hl hnews h1 h63 hbytes hbase
      exact ⟨v', w', hrun, .inl h2, fun _ => h2, h3, (Below.refl _ _).grown h3 hbase (fun k hk => (hd.lt k hk).1), h5⟩
    · subst hA
      obtain ⟨hlo, A', c', hv, _, _, hA0, hold⟩ := hd
      injection hv with q1 q2 q3
      subst q1; subst q3
      subst hsize; subst hby
      have hge := grownCap_ge w (n + m) n e
      have hcm' : grownCap w (n + m) n e ≤ maxLen := grownCap_le_maxLen w (n + m) n e h63
      have hlen : (cs ++ news).length = (n + m) * i.size := by rw [List.length_append, hlo, hl, Nat.add_mul]
      have hnext : Builtin.nextslicecap (n + m) n * i.bytes ≤ 281474976710656 := by
        have hh : Builtin.nextslicecap (n + m) n ≤ 2 * (n + m) := by
          unfold Builtin.nextslicecap
          split
          · omega
          · split
            · omega
            · simp only [Builtin.growBy]
              repeat' split
              all_goals omega
        calc Builtin.nextslicecap (n + m) n * i.bytes ≤ (2 * (n + m)) * i.bytes := Nat.mul_le_mul_right _ hh
          _ = 2 * ((n + m) * i.bytes) := by rw [Nat.mul_assoc]
          _ ≤ 281474976710656 := by omega
      have hrun : (Builtin.append_ #[t, t] ty #[.slice A n n, .slice (some ad) m c]).run P w =
          .ok (.slice (some ⟨w.heap.size, 0, none⟩) (n + m) (grownCap w (n + m) n e)) (w.drew.alloc (.cells (cs.toArray ++ news.toArray ++ Builtin.zeroCells z.cells (grownCap w (n + m) n e - (n + m))) e)) := by
        cases A with
        | none =>
          have hn0 : n = 0 := hA0 rfl
          subst hn0
          have hc0 : cs = [] := List.eq_nil_of_length_eq_zero (by simpa using hlo)
          subst hc0
          have := run_append_nil (P := P) w t ty e i z ht hi hz ad m c news hl hnews h0 (by simp only [maxLen] at h63; omega) (by rw [Nat.zero_add] at hbytes; omega)
          simpa using this
        | some b =>
          refine run_append_grow (P := P) w t ty e i z ht hi hz b n n cs hlo ?_ ad m c news hl hnews (by omega) (by simp only [maxLen] at h63; omega) hnext
          intro j u hu
          have hn : 0 < n := by
            rcases Nat.eq_zero_or_pos n with h | h
            · subst h
              have hc0 : cs = [] := List.eq_nil_of_length_eq_zero (by simpa using hlo)
              subst hc0
              simp at hu
            · exact h
          obtain ⟨b', hb', _, hh⟩ := hold hn
          injection hb' with hb'
          subst hb'
          exact hh j u hu
      have ho : (w.drew.alloc (.cells (cs.toArray ++ news.toArray ++ Builtin.zeroCells z.cells (grownCap w (n + m) n e - (n + m))) e)).ownsRow base e i.size (.slice (some ⟨w.heap.size, 0, none⟩) (n + m) (grownCap w (n + m) n e)) (n + m) (cs ++ news) := by
        refine ⟨hlen, .inr ⟨w.heap.size, _, _, rfl, hbase, heap_alloc_new w.drew _, hge, hcm', ?_, ?_⟩⟩
        · simp only [Array.size_append, List.size_toArray, size_zeroCells, hzs, hlo, hl, ← Nat.add_mul]
          congr 1
          omega
        · simp only [Array.toList_append, List.append_assoc]
          rw [← List.append_assoc, ← hlen]
          exact List.take_left
      exact ⟨_, _, hrun, .inl ho, fun _ => ho, ⟨rfl, rfl, rfl, by simp, fun k hk _ => Below.heap_alloc w.drew _ k hk⟩, ⟨rfl, rfl, rfl, by simp, fun k hk => Below.heap_alloc w.drew _ k (show k < w.heap.size by omega)⟩, .inr rfl⟩
end
/-- where a slice of a slice lies -/
def cutA (A : Option Addr) (m l size : Nat) : Option Addr := if m = l then A else A.map (·.add (l * size))

theorem Rd.cut' {w : World} {F : Nat → Prop} {size n : Nat} {cs : List Value} {A : Option Addr} {c l h m : Nat} (hr : Rd w F size (.slice A n c) n cs) (h1 : l ≤ h) (h2 : h ≤ n) (h3 : h ≤ m) (h4 : m ≤ c) :
    Rd w F size (.slice (cutA A m l size) (h - l) (m - l)) (h - l) ((cs.drop (l * size)).take ((h - l) * size)) := hr.cut h1 h2 h3 h4

section
variable {P : Program} {t e : TypeId} {i : TypeInfo} {size : Nat}
theorem run_slice_lo (ht : P.underlying t = some (.slice e)) (hi : P.info? e = some i) (hs : i.size = size) (A : Option Addr) (n c l : Nat) (h1 : l ≤ n) (w : World) :
    (Instr.slice t (.slice A n c) (some (.int .i64 (l : Int))) none none).run P w = .ok (.slice (cutA A c l size) (n - l) (c - l)) w := by
  simp [Instr.slice, run_underlying ht, Instr.sliceBounds, Instr.sliceBound, asIntOf, sizeOf, typeInfo, hi, hs, h1, cutA]
theorem run_slice_hi (ht : P.underlying t = some (.slice e)) (hi : P.info? e = some i) (A : Option Addr) (n c h : Nat) (h1 : h ≤ c) (w : World) :
    (Instr.slice t (.slice A n c) none (some (.int .i64 (h : Int))) none).run P w = .ok (.slice A h c) w := by
  simp [Instr.slice, run_underlying ht, Instr.sliceBounds, Instr.sliceBound, asIntOf, sizeOf, typeInfo, hi, h1, add_zero']
theorem run_slice_lohi (ht : P.underlying t = some (.slice e)) (hi : P.info? e = some i) (hs : i.size = size) (A : Option Addr) (n c l h : Nat) (h1 : l ≤ h) (h2 : h ≤ c) (w : World) :
    (Instr.slice t (.slice A n c) (some (.int .i64 (l : Int))) (some (.int .i64 (h : Int))) none).run P w = .ok (.slice (cutA A c l size) (h - l) (c - l)) w := by
  simp [Instr.slice, run_underlying ht, Instr.sliceBounds, Instr.sliceBound, asIntOf, sizeOf, typeInfo, hi, hs, h1, h2, cutA]
end
section
variable {P : Program} (w : World)
theorem wp_append_app {o : Oper} {a : Act} {K : Act → World → Prop} {Q : Exit → Act → World → Prop} (s x : Operand) (t : TypeId)
    (ho : o.op = .call { callee := .builtin .append, args := #[s, x], argTypes := #[t, t] })
    (base : Nat) (e : TypeId) (i : TypeInfo) (z : Value) (size bytes : Nat) (ht : P.underlying t = some (.slice e)) (hi : P.info? e = some i) (hz : i.zero = some z)
    (hsize : i.size = size) (hby : i.bytes = bytes) (hzs : z.cells.size = size) (hsz : 0 < size)
    (v : Value) (n : Nat) (cs : List Value) (hs : a.eval s = v) (hd : App w base e size v n cs)
    (F : Nat → Prop) (xv : Value) (m : Nat) (news : List Value) (hx : a.eval x = xv) (hr : Rd w F size xv m news) (h1 : ∀ u ∈ news, u.oneCell' = true)
    (h63 : n + m ≤ maxLen) (hbytes : (n + m) * bytes ≤ 140737488355328) (hbase : base ≤ w.heap.size)
    (h : ∀ v' w', App w' base e size v' (n + m) (cs ++ news) → (0 < m ∨ w.ownsRow base e size v n cs → w'.ownsRow base e size v' (n + m) (cs ++ news)) → w.grownBy w' v.ownBlock → Below base w w' →
      (v'.ownBlock = v.ownBlock ∨ v'.ownBlock = some w.heap.size) → K (a.put o.dst v') w') : o.wp P a w K Q := by
  obtain ⟨v', w', hrun, h2, h3, h4, h5, h6⟩ := run_append_app (P := P) w base t o.type e i z size bytes ht hi hz hsize hby hzs hsz v n cs hd F xv m news hr h1 h63 hbytes hbase
  unfold Oper.wp execOp
  simp only [ho, resolve, invoke, builtin, Sem.run_bind, Sem.run_pure, Result.andThen_ok, List.map_toArray, List.map_cons, List.map_nil, hs, hx, hrun]
  exact h v' w' h2 h3 h4 h5 h6

theorem wpList_append_app {ops : Array Oper} {rest : List Oper} {o : Oper} {a : Act} {Q : Exit → Act → World → Prop} (hgd : o.guard = none) (s x : Operand) (t : TypeId)
    (ho : o.op = .call { callee := .builtin .append, args := #[s, x], argTypes := #[t, t] })
    (base : Nat) (e : TypeId) (i : TypeInfo) (z : Value) (size bytes : Nat) (ht : P.underlying t = some (.slice e)) (hi : P.info? e = some i) (hz : i.zero = some z)
    (hsize : i.size = size) (hby : i.bytes = bytes) (hzs : z.cells.size = size) (hsz : 0 < size)
    (v : Value) (n : Nat) (cs : List Value) (hs : a.eval s = v) (hd : App w base e size v n cs)
    (F : Nat → Prop) (xv : Value) (m : Nat) (news : List Value) (hx : a.eval x = xv) (hr : Rd w F size xv m news) (h1 : ∀ u ∈ news, u.oneCell' = true)
    (h63 : n + m ≤ maxLen) (hbytes : (n + m) * bytes ≤ 140737488355328) (hbase : base ≤ w.heap.size)
    (h : ∀ v' w', App w' base e size v' (n + m) (cs ++ news) → (0 < m ∨ w.ownsRow base e size v n cs → w'.ownsRow base e size v' (n + m) (cs ++ news)) → w.grownBy w' v.ownBlock → Below base w w' →
      (v'.ownBlock = v.ownBlock ∨ v'.ownBlock = some w.heap.size) → wpList P ops Q rest (a.put o.dst v') w') : wpList P ops Q (o :: rest) a w :=
  wpList_plain hgd fun _ hK => wp_append_app w s x t ho base e i z size bytes ht hi hz hsize hby hzs hsz v n cs hs hd F xv m news hx hr h1 h63 hbytes hbase fun v' w' h2 h3 h4 h5 h6 => hK _ _ (h v' w' h2 h3 h4 h5 h6)
end

section
variable {w w' : World} {base : Nat} {e : TypeId} {size n : Nat} {v : Value} {cs : List Value}
theorem App.alloc (h : App w base e size v n cs) (hb : base ≤ w.heap.size) (o : Obj) : App (w.alloc o) base e size v n cs := by
  rcases h with h | ⟨h, hA⟩
  · exact .inl (h.alloc o)
  · exact .inr ⟨h.keep fun b hb' => Below.heap_alloc w o b (by omega), hA⟩
theorem App.below (h : App w base e size v n cs) (hb : base ≤ w.heap.size) (hx : Below w.heap.size w w') : App w' base e size v n cs := by
  rcases h with h | ⟨h, hA⟩
  · exact .inl (h.kept (row := none) ⟨hx.os, hx.tape, hx.output, hx.size, fun k hk _ => hx.block k hk⟩ (by cases v.ownBlock <;> simp))
  · exact .inr ⟨h.keep fun b hb' => hx.block b (by omega), hA⟩
theorem App.len (h : App w base e size v n cs) : cs.length = n * size := by
  rcases h with h | ⟨h, _⟩
  · exact h.1
  · exact h.1
/-- what a new block of cells reads as -/
theorem Rd.new (w : World) (l : List Value) (e : TypeId) (size n : Nat) (hl : l.length = n * size) (hn : n ≤ maxLen) : Rd (w.alloc (.cells l.toArray e)) (· = w.heap.size) size (.slice (some ⟨w.heap.size, 0, none⟩) n n) n l := by
  refine ⟨hl, _, n, rfl, Nat.le_refl _, hn, fun h => (Option.some_ne_none _ h).elim, fun _ => ⟨_, rfl, rfl, fun j u hu => ?_⟩⟩
  have hadd : (⟨w.heap.size, 0, none⟩ : Addr).add j = ⟨w.heap.size, j, none⟩ := by unfold Addr.add; split <;> simp_all
  rw [hadd, cell_of_row (w.alloc (.cells l.toArray e)) w.heap.size j l.toArray e (0, 0) (heap_alloc_new w _)]
  simpa using hu
end
/-- from w0 and the slice v0 to w and v by appends: below base nothing has turned, of the other old blocks v0's alone; v lies in v0's block or in a new one -/
structure Grew (base : Nat) (v0 : Value) (w0 : World) (v : Value) (w : World) : Prop where
  below : Below base w0 w
  grown : w0.grownBy w v0.ownBlock
  at_ : v.ownBlock = v0.ownBlock ∨ ∃ g, v.ownBlock = some g ∧ w0.heap.size ≤ g
theorem Grew.refl (base : Nat) (v : Value) (w : World) : Grew base v w v w := ⟨Below.refl _ _, World.grownBy.refl _ _, .inl rfl⟩
theorem Grew.alloc {base : Nat} {v0 v : Value} {w0 w : World} (h : Grew base v0 w0 v w) (hb : base ≤ w0.heap.size) (o : Obj) : Grew base v0 w0 v (w.alloc o) :=
  ⟨h.below.alloc (Nat.le_trans hb h.below.size) o, ⟨h.grown.os, h.grown.tape, h.grown.output, Nat.le_trans h.grown.size (by simp), fun k hk hne => (Below.heap_alloc w o k (Nat.lt_of_lt_of_le hk h.grown.size)).trans (h.grown.block k hk hne)⟩, h.at_⟩
theorem Grew.drew {base : Nat} {v0 v : Value} {w0 w : World} (h : Grew base v0 w0 v w) : Grew base v0 w0 v w.drew :=
  ⟨h.below.drew, ⟨h.grown.os, h.grown.tape, h.grown.output, h.grown.size, h.grown.block⟩, h.at_⟩
theorem Grew.trans {base : Nat} {v0 v v' : Value} {w0 w w' : World} (h : Grew base v0 w0 v w) (k : Grew base v w v' w') : Grew base v0 w0 v' w' := by
  refine ⟨h.below.trans k.below, ⟨k.grown.os.trans h.grown.os, k.grown.tape.trans h.grown.tape, k.grown.output.trans h.grown.output, Nat.le_trans h.grown.size k.grown.size, fun i hi hne => ?_⟩, ?_⟩
  · refine (k.grown.block i (Nat.lt_of_lt_of_le hi h.grown.size) ?_).trans (h.grown.block i hi hne)
    rcases h.at_ with e | ⟨g, e, hg⟩
    · rw [e]; exact hne
    · rw [e]; intro h'; injection h' with h'; omega
  · rcases k.at_ with e | ⟨g, e, hg⟩
    · rw [e]; exact h.at_
    · exact .inr ⟨g, e, Nat.le_trans h.grown.size hg⟩
theorem Grew.step {base : Nat} {v v' : Value} {w w' : World} (hg : w.grownBy w' v.ownBlock) (hb : Below base w w') (ha : v'.ownBlock = v.ownBlock ∨ v'.ownBlock = some w.heap.size) : Grew base v w v' w' :=
  ⟨hb, hg, ha.imp id fun h => ⟨_, h, Nat.le_refl _⟩⟩
theorem Grew.size {base : Nat} {v0 v : Value} {w0 w : World} (h : Grew base v0 w0 v w) : w0.heap.size ≤ w.heap.size := h.below.size
theorem one_one {v : Value} (h : v.oneCell' = true) : ∀ u ∈ [v], u.oneCell' = true := by
  intro u hu
  rw [List.mem_singleton] at hu
  rw [hu]
  exact h
theorem own_empty (w : World) (base : Nat) (e : TypeId) (size : Nat) (hb : base ≤ w.heap.size) : (w.alloc (.cells #[] e)).ownsRow base e size (.slice (some ⟨w.heap.size, 0, none⟩) 0 0) 0 [] :=
  World.ownsRow_made (size := size) w #[] 0 hb (Nat.zero_le _) (by simp)
theorem Rd.alloc {w : World} {size n : Nat} {v : Value} {cs : List Value} {B : Nat} (h : Rd w (· < B) size v n cs) (hB : B ≤ w.heap.size) (o : Obj) : Rd (w.alloc o) (· < B) size v n cs :=
  h.keep fun b hb => Below.heap_alloc w o b (by omega)
theorem Rd.alloc' {w : World} {size n : Nat} {v : Value} {cs : List Value} (h : Rd w (· < w.heap.size) size v n cs) (o : Obj) : Rd (w.alloc o) (· < (w.alloc o).heap.size) size v n cs :=
  (h.alloc (Nat.le_refl _) o).wide fun b hb => by simp; omega
theorem Rd.below' {w w' : World} {size n : Nat} {v : Value} {cs : List Value} (h : Rd w (· < w.heap.size) size v n cs) (hb : Below w.heap.size w w') : Rd w' (· < w'.heap.size) size v n cs :=
  (h.below hb).wide fun _ hb' => Nat.lt_of_lt_of_le hb' hb.size
end Go.Proofs.Ytooojgokkigncaa
