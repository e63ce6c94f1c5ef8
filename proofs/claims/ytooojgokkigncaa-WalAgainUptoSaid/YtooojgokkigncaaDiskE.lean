/-
  Disks: one operation on a map of files, but for an append.
-/
import Derived.Test.YtooojgokkigncaaDiskD
namespace Go.Proofs.Ytooojgokkigncaa
open Go.RowKit Go.Lib Go.IntWalk

section
variable {w : World} {ops : Array Oper} {rest : List Oper} {o : Oper} {a : Act} {K : Act → World → Prop} {Q : Exit → Act → World → Prop}
theorem wp_mput (m x v : Operand) (hop : o.op = Op.mapUpdate 77 m x v) (M n : Nat) (g : List UInt8 → Option Value) (hm : a.eval m = .map (some M)) (h : MapIs w M n g) (hn : n < maxLen)
    (key : List UInt8) (hk : key.length ≤ maxLen) (hx : a.eval x = .string (strB key)) (val : Value) (hv : a.eval v = val)
    (hK : ∀ w', MapIs w' M (n + 1) (updG g key (some val)) → Chg (· = M) w w' → K (a.put o.dst undef) w') : o.wp Try.prog a w K Q := by
  obtain ⟨w', hrun, r1, r2⟩ := h.store key hk hn val
  unfold Oper.wp
  simp [execOp, hop, hm, hx, hv, hrun, Result.andThen]
  exact hK w' r1 r2
theorem wpList_mput (hg : o.guard = none) (m x v : Operand) (hop : o.op = Op.mapUpdate 77 m x v) (M n : Nat) (g : List UInt8 → Option Value) (hm : a.eval m = .map (some M)) (h : MapIs w M n g) (hn : n < maxLen)
    (key : List UInt8) (hk : key.length ≤ maxLen) (hx : a.eval x = .string (strB key)) (val : Value) (hv : a.eval v = val)
    (hK : ∀ w', MapIs w' M (n + 1) (updG g key (some val)) → Chg (· = M) w w' → wpList Try.prog ops Q rest (a.put o.dst undef) w') : wpList Try.prog ops Q (o :: rest) a w :=
  wpList_plain hg fun _ hK' => wp_mput m x v hop M n g hm h hn key hk hx val hv fun w' r1 r2 => hK' _ _ (hK w' r1 r2)
theorem wpList_mdel (hg : o.guard = none) (m x : Operand) (hop : o.op = Op.call { callee := Callee.builtin Builtin.delete, args := #[m, x], argTypes := #[77, 9] }) (M n : Nat) (g : List UInt8 → Option Value) (hm : a.eval m = .map (some M)) (h : MapIs w M n g)
    (key : List UInt8) (hk : key.length ≤ maxLen) (hx : a.eval x = .string (strB key))
    (hK : ∀ w', MapIs w' M n (updG g key none) → Chg (· = M) w w' → wpList Try.prog ops Q rest (a.put o.dst (.tuple #[])) w') : wpList Try.prog ops Q (o :: rest) a w := by
  refine wpList_plain hg fun K' hK' => ?_
  obtain ⟨w', hrun, r1, r2⟩ := h.drop key hk o.type
  unfold Oper.wp
  simp [execOp, hop, resolve, invoke, builtin, hm, hx, hrun, Result.andThen]
  exact hK' _ _ (hK w' r1 r2)
end

/-- what an operation leaves -/
def ApOut (B M n : Nat) (fm : FM) (w : World) (e : Ending) (w' : World) : Prop :=
  ∃ u g', e = .returned u ∧ MapIs w' M (n + 1) g' ∧ GRd B w' g' fm ∧ Chg (· = M) w w'
theorem DatB.drew {B : Nat} {w : World} {v : Value} {l : List UInt8} (h : DatB B w v l) : DatB B w.drew v l := h
theorem DatB.alloc {B : Nat} {w : World} {v : Value} {l : List UInt8} (h : DatB B w v l) (hB : B ≤ w.heap.size) (o : Obj) : DatB B (w.alloc o) v l := h.below hB (Below.of_alloc o)
theorem Below.undrew {B : Nat} {w w' : World} (h : Below B w.drew w') : Below B w w' := ⟨h.os, h.tape, h.output, h.size, h.block⟩
theorem GRd.alloc {B : Nat} {w : World} {g : List UInt8 → Option Value} {fm : FM} (h : GRd B w g fm) (hB : B ≤ w.heap.size) (o : Obj) : GRd B (w.alloc o) g fm := h.chg hB (Chg.alloc (Chg.refl (fun _ => False) w) o) (fun _ _ h => h)
theorem GRd.below {B : Nat} {w w' : World} {g : List UInt8 → Option Value} {fm : FM} (h : GRd B w g fm) (hB : B ≤ w.heap.size) (hb : Below w.heap.size w w') : GRd B w' g fm := h.chg hB (Chg.of_below hb (fun _ => False)) (fun _ _ h => h)
theorem GRd.map {B M : Nat} {w w' : World} {g : List UInt8 → Option Value} {fm : FM} (h : GRd B w g fm) (hB : B ≤ w.heap.size) (hM : B ≤ M) (ho : ∃ es clock, w.heap[M]? = some (.map es clock)) (hc : Chg (· = M) w w') : GRd B w' g fm :=
  h.chg hB hc (fun _ hb => BR_not_map hM ho hb)
theorem MapIs.alloc {w : World} {M n : Nat} {g : List UInt8 → Option Value} (h : MapIs w M n g) (o : Obj) : MapIs (w.alloc o) M n g := h.chg (Chg.alloc (Chg.refl (fun _ => False) w) o) (fun h => h)

section
variable {w : World} {o : Oper} {a : Act} {K : Act → World → Prop} {Q : Exit → Act → World → Prop}
/-- old[:n:n] with more bytes -/
theorem wp_append_dat (s x : Operand) (ho : o.op = .call { callee := .builtin .append, args := #[s, x], argTypes := #[23, 23] })
    (B : Nat) (ad : Option Addr) (l : List UInt8) (hs : a.eval s = .slice ad l.length l.length) (hd : DatB B w (.slice ad l.length l.length) l) (xv : Value) (m : List UInt8) (hx : a.eval x = xv) (hr : DatB B w xv m)
    (hB : B ≤ w.heap.size) (hl : l.length + m.length ≤ 1099511627776)
    (h : ∀ v' w', DatB B w' v' (l ++ m) → Below w.heap.size w w' → K (a.put o.dst v') w') : o.wp Try.prog a w K Q := by
  obtain ⟨i0, hi, hz0, hz1, hz2⟩ := info_parts infoB
  by_cases hm : m = []
  · subst hm
    obtain ⟨X, c, rfl, h1, h2, h3⟩ := Rd.open_ hr
    have hr0 := run_append_zero (P := Try.prog) w 23 o.type 5 i0 Try.underlying23 hi ad X l.length l.length c (Nat.le_refl _)
    unfold Oper.wp execOp
    simp only [List.length_nil] at hx
    simp only [ho, resolve, invoke, builtin, Sem.run_bind, Sem.run_pure, Result.andThen_ok, List.map_toArray, List.map_cons, List.map_nil, hs, hx, hr0]
    refine h _ w ?_ (Below.refl _ _)
    rw [List.append_nil]
    exact hd
  · have h0 : 0 < m.length := by cases m <;> simp_all
    refine wp_append_app w s x 23 ho w.heap.size 5 i0 _ 1 1 Try.underlying23 hi hz0 hz1 hz2 rfl (by omega) _ l.length (bv l) hs (.inr ?_) (· < w.heap.size) xv m.length (bv m) hx (DatB.rd hr hB) (bv_one _) (by simp only [maxLen]; omega) (by omega) (Nat.le_refl _) ?_
    · exact ⟨DatB.rd hd hB, ad, rfl⟩
    · intro v' w' _ h2 _ h4 _
      exact h v' w' (DatB.of_own (ownB_of (h2 (.inl h0)))) h4
end
theorem run_slice_him {P : Program} {t e : TypeId} {i : TypeInfo} (ht : P.underlying t = some (.slice e)) (hi : P.info? e = some i) (A : Option Addr) (n c h m : Nat) (h1 : h ≤ m) (h2 : m ≤ c) (w : World) :
    (Instr.slice t (.slice A n c) none (some (.int .i64 (h : Int))) (some (.int .i64 (m : Int)))).run P w = .ok (.slice A h m) w := by
  simp [Instr.slice, run_underlying ht, Instr.sliceBounds, Instr.sliceBound, asIntOf, sizeOf, typeInfo, hi, h1, h2, add_zero']
theorem DatB.whole {B : Nat} {w : World} {A : Option Addr} {c : Nat} {l : List UInt8} (h : DatB B w (.slice A l.length c) l) : DatB B w (.slice A l.length l.length) l := by
  obtain ⟨h1, A', c', hv, h2, h3, h4, h5⟩ := h
  injection hv with e1 e2 e3
  subst e1; subst e3
  exact ⟨h1, A, l.length, rfl, Nat.le_refl _, by omega, fun h => by have := h4 h; omega, h5⟩

set_option maxRecDepth 100000 in
set_option maxHeartbeats 1000000 in
theorem apply_add (B M n : Nat) (g : List UInt8 → Option Value) (fm : FM) (nm to : List UInt8) (dv : Value) (data : List UInt8) (w : World) (hB : B ≤ M) (hM : MapIs w M n g) (hG : GRd B w g fm) (hBw : B ≤ w.heap.size) (hk : nm.length ≤ maxLen) (hn : n < maxLen)
    (hd : DatB B w dv data) (hsum : ((fm nm).getD []).length + data.length ≤ 1099511627776) :
    Calls Try.prog 71 #[.map (some M), .agg #[.int .i64 0, .string (strB nm), .string (strB to), dv]] w (ApOut B M n (updG fm nm (some ((fm nm).getD [] ++ data))) w) := by
  have hMl := hM.lt
  have hM1 := hM.alloc (.cells #[.int .i64 0, .string (strB nm), .string (strB to), dv] 92)
  have hG1 := hG.alloc hBw (.cells #[.int .i64 0, .string (strB nm), .string (strB to), dv] 92)
  have hlk := hM1.look nm hk
  have hD0 := GRd.get hG1 nm
  have hDv := hd.alloc hBw (.cells #[.int .i64 0, .string (strB nm), .string (strB to), dv] 92)
  have hBw1 : B ≤ (w.alloc (.cells #[.int .i64 0, .string (strB nm), .string (strB to), dv] 92)).heap.size := by simp; omega
  have HF : Hid (∀ (w3 w2 : World) (v' : Value), DatB B w2 v' ((fm nm).getD [] ++ data) → Below (w.alloc (.cells #[.int .i64 0, .string (strB nm), .string (strB to), dv] 92)).heap.size (w.alloc (.cells #[.int .i64 0, .string (strB nm), .string (strB to), dv] 92)).drew w2 → MapIs w2 M n g → MapIs w3 M (n + 1) (updG g nm (some v')) → Chg (· = M) w2 w3 → ∀ u, ApOut B M n (updG fm nm (some ((fm nm).getD [] ++ data))) w (.returned u) w3) := by
    refine Lib.hid ?_
    intro w3 w2 v' h1 h2 h3 h4 h5 u
    have h2 := Below.undrew h2
    have hB2 : B ≤ w2.heap.size := by have := h2.size; simp at this; omega
    refine ⟨u, _, rfl, h4, ?_, ?_⟩
    · exact ((GRd.below hG1 hBw1 h2).put nm h1).map hB2 hB h3.obj h5
    · exact ((Chg.alloc (Chg.refl _ w) _).then_below h2).trans h5 (fun _ _ h => h)
  obtain ⟨i0, hi, hz0, hz1, hz2⟩ := info_parts infoB
  generalize hold : (fm nm).getD [] = old at *
  generalize (g nm).getD (.slice none 0 0) = ov at *
  obtain ⟨A, c, rfl, h1, h2, h3⟩ := Rd.open_ hD0
  have hsl := run_slice_him (P := Try.prog) Try.underlying23 hi A old.length c old.length old.length (Nat.le_refl _) h1
  have hD1 : DatB B (w.alloc (.cells #[.int .i64 0, .string (strB nm), .string (strB to), dv] 92)) (.slice A old.length old.length) old := DatB.whole hD0
  have HD1 := Lib.hid hD1
  have HI := Lib.hid hi
  have H3 := Lib.hid h3
  clear hold hD0 hi hz0 hz1 hz2 hG hG1 h3 hD1
  unfold maxLen at h2
  go_enter Try.func71, Try.ntmps71
  go_wp2_with fail
  refine wp_region_noPanic ?_
  refine wp_region_held_drew (S := (fun w' => w'.cell? ⟨w.heap.size, 1, none⟩ = some (.string (strB nm)) ∧ w'.cell? ⟨w.heap.size, 3, none⟩ = some dv)) (by kernel_rfl) ?_ (fun hHeld => ?_)
  · exact ⟨box_cell w _ _ 1 rfl, box_cell w _ _ 3 rfl⟩
  refine heldTake 0 (some 14) (v := ?_) rfl rfl (by kernel_rfl) (by kernel_rfl) (by kernel_rfl) (by rfl) hHeld (fun _ _ _ h => h) ?_ ?_
  rotate_left
  · intro w' hSw; (try dsimp only at hSw); go_simp <;> with_reducible rfl
  simp only [Act.put, List.setIfInBounds_toArray, List.set_cons_zero, List.set_cons_succ]
  refine heldTake 1 (some 15) (v := ?_) rfl rfl (by kernel_rfl) (by kernel_rfl) (by kernel_rfl) (by rfl) hHeld (fun _ _ _ h => h) ?_ ?_
  rotate_left
  · intro w' hSw; (try dsimp only at hSw); go_simp <;> with_reducible rfl
  simp only [Act.put, List.setIfInBounds_toArray, List.set_cons_zero, List.set_cons_succ]
  refine heldTake 2 (some 16) (v := ?_) rfl rfl (by kernel_rfl) (by kernel_rfl) (by kernel_rfl) (by rfl) hHeld (fun _ _ _ h => h) ?_ ?_
  rotate_left
  · intro w' hSw; (try dsimp only at hSw); obtain ⟨hc1, hc3⟩ := hSw; go_simp <;> with_reducible rfl
  simp only [Act.put, List.setIfInBounds_toArray, List.set_cons_zero, List.set_cons_succ]
  refine heldTake 3 (some 17) (v := ?_) rfl rfl (by kernel_rfl) (by kernel_rfl) (by kernel_rfl) (by rfl) hHeld (fun _ _ _ h => h) ?_ ?_
  rotate_left
  · intro w' hSw; (try dsimp only at hSw); go_simp <;> with_reducible rfl
  simp only [Act.put, List.setIfInBounds_toArray, List.set_cons_zero, List.set_cons_succ]
  refine heldTake 4 (some 18) (v := ?_) rfl rfl (by kernel_rfl) (by kernel_rfl) (by kernel_rfl) (by rfl) hHeld (fun _ _ _ h => h) ?_ ?_
  rotate_left
  · intro w' hSw; (try dsimp only at hSw); go_simp <;> with_reducible rfl
  simp only [Act.put, List.setIfInBounds_toArray, List.set_cons_zero, List.set_cons_succ]
  refine heldTake 5 (some 19) (v := ?_) rfl rfl (by kernel_rfl) (by kernel_rfl) (by kernel_rfl) (by rfl) hHeld (fun _ _ _ h => h) ?_ ?_
  rotate_left
  · intro w' hSw; (try dsimp only at hSw); go_simp <;> with_reducible rfl
  simp only [Act.put, List.setIfInBounds_toArray, List.set_cons_zero, List.set_cons_succ]
  refine heldTake 6 (some 20) (v := ?_) rfl rfl (by kernel_rfl) (by kernel_rfl) (by kernel_rfl) (by rfl) hHeld (fun _ _ _ h => h) ?_ ?_
  rotate_left
  · intro w' hSw; (try dsimp only at hSw); go_simp <;> with_reducible rfl
  simp only [Act.put, List.setIfInBounds_toArray, List.set_cons_zero, List.set_cons_succ]
  refine heldTake 7 (some 21) (v := ?_) rfl rfl (by kernel_rfl) (by kernel_rfl) (by kernel_rfl) (by rfl) hHeld (fun _ _ _ h => h) ?_ ?_
  rotate_left
  · intro w' hSw; (try dsimp only at hSw); go_simp <;> with_reducible rfl
  simp only [Act.put, List.setIfInBounds_toArray, List.set_cons_zero, List.set_cons_succ]
  refine heldTake 8 (some 22) (v := ?_) rfl rfl (by kernel_rfl) (by kernel_rfl) (by kernel_rfl) (by rfl) hHeld (fun _ _ _ h => h) ?_ ?_
  rotate_left
  · intro w' hSw; (try dsimp only at hSw); go_simp <;> with_reducible rfl
  simp only [Act.put, List.setIfInBounds_toArray, List.set_cons_zero, List.set_cons_succ]
  refine heldTake 9 (some 23) (v := ?_) rfl rfl (by kernel_rfl) (by kernel_rfl) (by kernel_rfl) (by rfl) hHeld (fun _ _ _ h => h) ?_ ?_
  rotate_left
  · intro w' hSw; (try dsimp only at hSw); go_simp <;> with_reducible rfl
  simp only [Act.put, List.setIfInBounds_toArray, List.set_cons_zero, List.set_cons_succ]
  refine heldTake 10 (some 24) (v := ?_) rfl rfl (by kernel_rfl) (by kernel_rfl) (by kernel_rfl) (by rfl) hHeld (fun _ _ _ h => h) ?_ ?_
  rotate_left
  · intro w' hSw; (try dsimp only at hSw); obtain ⟨hc1, hc3⟩ := hSw; go_simp <;> with_reducible rfl
  simp only [Act.put, List.setIfInBounds_toArray, List.set_cons_zero, List.set_cons_succ]
  refine heldOp 11 rfl (by kernel_rfl) (by rfl) ?_
  refine wp_append_dat (.tmp 22) (.tmp 24) rfl B A old rfl (DatB.drew HD1.out) _ _ rfl (DatB.drew hDv) hBw1 hsum ?_
  intro v' w2 hDv' hb2
  refine keepAnd ?_ (fun hNew => ?_)
  · exact ⟨(hb2.cell (p := ⟨w.heap.size, 1, none⟩) (by simp)).trans (box_cell w _ _ 1 rfl), (hb2.cell (p := ⟨w.heap.size, 3, none⟩) (by simp)).trans (box_cell w _ _ 3 rfl)⟩
  clear hHeld
  have hHeld := hNew
  clear hNew
  simp only [Act.put, List.setIfInBounds_toArray, List.set_cons_zero, List.set_cons_succ]
  refine heldOp 12 rfl (by kernel_rfl) (by rfl) ?_
  have hM2 : MapIs w2 M n g := hM1.block (hb2.block M (by simp; omega))
  refine wp_mput (.tmp 14) (.tmp 16) (.tmp 25) rfl M n g rfl hM2 hn nm hk rfl _ rfl ?_
  intro w3 hM3 hc3
  refine keepAnd ?_ (fun hNew => ?_)
  · exact ⟨(World.cell?_of_block (hc3.block w.heap.size (by have := hb2.size; simp at this; omega) (by omega))).trans ((hb2.cell (p := ⟨w.heap.size, 1, none⟩) (by simp)).trans (box_cell w _ _ 1 rfl)), (World.cell?_of_block (hc3.block w.heap.size (by have := hb2.size; simp at this; omega) (by omega))).trans ((hb2.cell (p := ⟨w.heap.size, 3, none⟩) (by simp)).trans (box_cell w _ _ 3 rfl))⟩
  clear hHeld
  have hHeld := hNew
  clear hNew
  simp only [Act.put]
  refine wpAnyH_done (by kernel_rfl) ?_ _
  refine NoPanic.normal ?_
  go_wp2_with fail
  go_end0
  exact HF.out w3 w2 v' hDv' hb2 hM2 hM3 hc3 _

set_option maxRecDepth 100000 in
set_option maxHeartbeats 1000000 in
theorem apply_del (B M n : Nat) (g : List UInt8 → Option Value) (fm : FM) (nm to : List UInt8) (dv : Value) (w : World) (hB : B ≤ M) (hM : MapIs w M n g) (hG : GRd B w g fm) (hBw : B ≤ w.heap.size) (hk : nm.length ≤ maxLen) :
    Calls Try.prog 71 #[.map (some M), .agg #[.int .i64 1, .string (strB nm), .string (strB to), dv]] w (ApOut B M n (updG fm nm none) w) := by
  have hMl := hM.lt
  have hM1 := hM.alloc (.cells #[.int .i64 1, .string (strB nm), .string (strB to), dv] 92)
  have hG1 := hG.alloc hBw (.cells #[.int .i64 1, .string (strB nm), .string (strB to), dv] 92)
  go_enter Try.func71, Try.ntmps71
  go_wp2_with (at_delete; refine wpList_mdel rfl _ _ rfl M n g rfl hM1 nm hk rfl ?_; intro w1 hM2 hc1)
  go_end0
  refine ⟨_, _, rfl, hM2.mono (by omega), ?_, ?_⟩
  · exact GRd.del (hG1.map (by simp; omega) hB hM1.obj hc1) nm
  · exact (Chg.alloc (Chg.refl _ w) _).trans hc1 (fun _ _ h => h)

set_option maxRecDepth 100000 in
set_option maxHeartbeats 1000000 in
theorem apply_ren (B M n : Nat) (g : List UInt8 → Option Value) (fm : FM) (nm to : List UInt8) (dv : Value) (w : World) (hB : B ≤ M) (hM : MapIs w M n g) (hG : GRd B w g fm) (hBw : B ≤ w.heap.size) (hk : nm.length ≤ maxLen) (hk2 : to.length ≤ maxLen) (hn : n < maxLen) :
    Calls Try.prog 71 #[.map (some M), .agg #[.int .i64 2, .string (strB nm), .string (strB to), dv]] w (ApOut B M n (updG (updG fm nm none) to (some ((fm nm).getD []))) w) := by
  have hMl := hM.lt
  have hM1 := hM.alloc (.cells #[.int .i64 2, .string (strB nm), .string (strB to), dv] 92)
  have hG1 := hG.alloc hBw (.cells #[.int .i64 2, .string (strB nm), .string (strB to), dv] 92)
  have hlk := hM1.look nm hk
  have hD0 := GRd.get hG1 nm
  generalize (g nm).getD (.slice none 0 0) = ov at *
  have HC : ∀ w1 : World, Chg (· = M) (w.alloc (.cells #[.int .i64 2, .string (strB nm), .string (strB to), dv] 92)) w1 → w1.cell? ⟨w.heap.size, 2, none⟩ = some (.string (strB to)) :=
    fun w1 hc1 => (World.cell?_of_block (hc1.block w.heap.size (by simp) (by omega))).trans (box_cell w _ _ 2 rfl)
  have HC' := Lib.hid HC
  clear HC
  go_enter Try.func71, Try.ntmps71
  go_wp2_with (at_delete; refine wpList_mdel rfl _ _ rfl M n g rfl hM1 nm hk rfl ?_; intro w1 hM2 hc1; have hcl := HC'.out w1 hc1; obtain ⟨w2, hst, hM3, hc2⟩ := hM2.store to hk2 hn ov)
  go_end0
  have hB1 : B ≤ w1.heap.size := by have := hc1.size; simp at this; omega
  refine ⟨_, _, rfl, hM3, ?_, ?_⟩
  · refine GRd.map (GRd.put (GRd.del (hG1.map (by simp; omega) hB hM1.obj hc1) nm) to ?_) hB1 hB hM2.obj hc2
    exact hD0.chg (by simp; omega) hc1 (fun _ hb => BR_not_map hB hM1.obj hb)
  · exact ((Chg.alloc (Chg.refl _ w) _).trans hc1 (fun _ _ h => h)).trans hc2 (fun _ _ h => h)

/-- one operation -/
theorem apply_any (B M n : Nat) (g : List UInt8 → Option Value) (fm : FM) (o : DOp) (dv : Value) (w : World) (hB : B ≤ M) (hM : MapIs w M n g) (hG : GRd B w g fm) (hBw : B ≤ w.heap.size) (hkd : o.kind ≤ 2) (hk : o.name.length ≤ maxLen) (hk2 : o.to.length ≤ maxLen) (hn : n < maxLen)
    (hd : DatB B w dv o.data) (hsum : ((fm o.name).getD []).length + o.data.length ≤ 1099511627776) :
    Calls Try.prog 71 #[.map (some M), .agg #[.int .i64 (o.kind : Int), .string (strB o.name), .string (strB o.to), dv]] w (ApOut B M n (applyF fm o) w) := by
  obtain ⟨kd, nm, to, data⟩ := o
  simp only at hkd hk hk2 hd hsum
  have : kd = 0 ∨ kd = 1 ∨ kd = 2 := by omega
  rcases this with rfl | rfl | rfl
  · exact apply_add B M n g fm nm to dv data w hB hM hG hBw hk hn hd hsum
  · exact apply_del B M n g fm nm to dv w hB hM hG hBw hk
  · exact apply_ren B M n g fm nm to dv w hB hM hG hBw hk hk2 hn
end Go.Proofs.Ytooojgokkigncaa
