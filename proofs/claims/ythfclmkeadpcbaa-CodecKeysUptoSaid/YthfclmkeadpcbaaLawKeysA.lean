/-
  The walks of CodecKeys.
-/
import Derived.Test.YthfclmkeadpcbaaCodecT
import Derived.Test.YthfclmkeadpcbaaCodecJ
import Derived.Test.YthfclmkeadpcbaaLaw2
import Derived.Test.YthfclmkeadpcbaaLawSpareA
namespace Go.Proofs.Ythfclmkeadpcbaa
open Go.ChangeShapes Go.WideShapes Go.ChangeAt Go.RowKit Go.Lib

section
variable {P : Program} (w : World)
theorem wpList_append_want {ops : Array Oper} {rest : List Oper} {o : Oper} {a : Act} {Q : Exit → Act → World → Prop} (hw : Region.wanted o (yielded ops a.tmps) = true) (s x : Operand) (t : TypeId)
    (ho : o.op = .call { callee := .builtin .append, args := #[s, x], argTypes := #[t, t] })
    (base : Nat) (e : TypeId) (i : TypeInfo) (z : Value) (size bytes : Nat) (ht : P.underlying t = some (.slice e)) (hi : P.info? e = some i) (hz : i.zero = some z)
    (hsize : i.size = size) (hby : i.bytes = bytes) (hzs : z.cells.size = size) (hsz : 0 < size)
    (v : Value) (n : Nat) (cs : List Value) (hs : a.eval s = v) (hd : App w base e size v n cs)
    (F : Nat → Prop) (xv : Value) (m : Nat) (news : List Value) (hx : a.eval x = xv) (hr : Rd w F size xv m news) (h1 : ∀ u ∈ news, u.oneCell' = true)
    (h63 : n + m ≤ maxLen) (hbytes : (n + m) * bytes ≤ 140737488355328) (hbase : base ≤ w.heap.size)
    (h : ∀ v' w', App w' base e size v' (n + m) (cs ++ news) → (0 < m ∨ w.ownsRow base e size v n cs → w'.ownsRow base e size v' (n + m) (cs ++ news)) → w.grownBy w' v.ownBlock → Below base w w' →
      (v'.ownBlock = v.ownBlock ∨ v'.ownBlock = some w.heap.size) → wpList P ops Q rest (a.put o.dst v') w') : wpList P ops Q (o :: rest) a w :=
  BigFrame.wpList_want hw fun _ hK => wp_append_app w s x t ho base e i z size bytes ht hi hz hsize hby hzs hsz v n cs hs hd F xv m news hx hr h1 h63 hbytes hbase fun v' w' h2 h3 h4 h5 h6 => hK _ _ (h v' w' h2 h3 h4 h5 h6)
end
theorem infoV' : (Try.prog.info? 37).map (fun i => (i.zero, i.size, i.bytes)) = some (some (.agg #[.int .i64 0, .int .i64 0, .string ⟨#[]⟩]), 3, 32) := infoV
set_option maxRecDepth 100000 in
set_option maxHeartbeats 2000000 in
theorem lawKeys_yes (v u : Value) (xs ys : List Val) (w : World) (hv : RdV w (· < w.heap.size) v xs) (hu : RdV w (· < w.heap.size) u ys) (hg : ∀ x ∈ xs, goV x) (hg' : ∀ x ∈ ys, goV x)
    (h1 : xs.all validV = true) (h2 : ys.all validV = true) (hok : ∀ x ∈ xs, okV x) (hok' : ∀ x ∈ ys, okV x) (hoka : ∀ x ∈ xs ++ ys, okV x) (hbo : ∀ x ∈ xs, x.kind = 3 → x.int = 0 ∨ x.int = 1)
    (n1 : xs.length ≤ 1048576) (n2 : ys.length ≤ 1048576) (l1 : (keyR xs).length ≤ 140737488354000) (l2 : (keyR ys).length ≤ 140737488354000) (l3 : (keyR (xs ++ ys)).length ≤ 140737488354000) :
    Calls Try.prog 4 #[v, u] w fun e w' => e = .returned (.bool true) ∧ Below w.heap.size w w' := by
  obtain ⟨i0, hi, hz0, hz1, hz2⟩ := info_parts infoV
  have HA := Lib.hid h1
  have HB := Lib.hid h2
  have HO := Lib.hid hok
  have HO' := Lib.hid hok'
  have HOA := Lib.hid hoka
  have HBO := Lib.hid hbo
  have HC := Lib.hid (key_order h1 h2)
  have HG := Lib.hid hg
  have HG' := Lib.hid hg'
  clear h1 h2 hok hok' hoka hbo hg hg'
  go_enter Try.func4, Try.ntmps4
  go_wp2_with fail
  (with_reducible refine (lawValid_any v xs _ hv HG.out).mono ?_)
  rw [HA.out]
  rintro e w1 ⟨rfl, hb1⟩
  go_wp2_with fail
  (with_reducible refine (lawValid_any u ys _ (hu.below hb1) HG'.out).mono ?_)
  rw [HB.out]
  rintro e w2 ⟨rfl, hb2⟩
  have hB2 := hb1.trans (hb2.mono hb1.size)
  go_wp2_with fail
  (with_reducible refine (key_any v xs _ (hv.below hB2) HO.out l1).mono ?_)
  rintro e w3 ⟨v3, rfl, ho3, hb3⟩
  have hB3 := hB2.trans (hb3.mono hB2.size)
  go_wp2_with fail
  (with_reducible refine (key_any u ys _ (hu.below hB3) HO'.out l2).mono ?_)
  rintro e w4 ⟨v4, rfl, ho4, hb4⟩
  have hB4 := hB3.trans (hb4.mono hB3.size)
  have hr3 := ho3.rd.below hb4
  have hr4 := ho4.rd
  go_wp2_with fail
  (with_reducible refine (refKey_any v xs _ (hv.below hB4) HO.out HBO.out l1).mono ?_)
  rintro e w5 ⟨v5, rfl, ho5, hb5⟩
  have hB5 := hB4.trans (hb5.mono hB4.size)
  have hr3 := hr3.below hb5
  have hr4 := hr4.below hb5
  go_wp2_with fail
  (with_reducible refine (equal_same v3 v5 _ _ _ _ hr3 ho5.rd).mono ?_)
  rintro e w6 ⟨rfl, rfl⟩
  go_wp2_with fail
  (with_reducible refine (compare_any v3 v4 _ _ _ _ _ hr3 hr4).mono ?_)
  rw [HC.out]
  rintro e w6 ⟨rfl, rfl⟩
  go_wp2_with fail
  (with_reducible refine (refCompare_any v u xs ys _ (hv.below hB5) (hu.below hB5)).mono ?_)
  rintro e w6 ⟨rfl, hb6⟩
  have hB6 := hB5.trans (hb6.mono hB5.size)
  have hr3 := hr3.below hb6
  have hv6 := hv.below hB6
  have hu6 := hu.below hB6
  go_wp2_with (first
    | (at_builtin; refine wpList_append_want _ (by rfl) (.tmp 34) (.tmp 35) 30 rfl w6.heap.size 37 i0 _ 3 32 Try.underlying30 hi hz0 hz1 hz2 rfl (by omega) _ 0 [] rfl (.inl (own_empty w6 w6.heap.size _ 3 (Nat.le_refl _))) _ v xs.length (cv xs) rfl (Rd.alloc hv6 (Nat.le_refl _) _) (cv_one _) (by simp only [maxLen]; omega) (by omega) (by simp) ?_; intro v7 w7 hA7 hO7 hg7 hb7 ha7)
    | (at_builtin; refine wpList_append_want _ (by rfl) (.tmp 36) (.tmp 37) 30 rfl w6.heap.size 37 i0 _ 3 32 Try.underlying30 hi hz0 hz1 hz2 rfl (by omega) v7 _ _ rfl hA7 _ u ys.length (cv ys) rfl (Rd.below (Rd.alloc hu6 (Nat.le_refl _) _) hb7) (cv_one _) (by simp only [maxLen]; omega) (by omega) (Nat.le_trans (by simp) hb7.size) ?_; intro v8 w8 hA8 hO8 hg8 hb8 ha8))
  have hb68 : Below w6.heap.size w6 w8 := (Below.of_alloc _).trans (hb7.trans hb8)
  have hB8 := hB6.trans (hb68.mono hB6.size)
  have hr3 := hr3.below hb68
  have h8 := hO8 (.inr (hO7 (.inr (own_empty w6 w6.heap.size _ 3 (Nat.le_refl _)))))
  have hO : OwnV w8 w6.heap.size v8 (xs ++ ys) := by
    unfold OwnV
    rw [cv_append, List.length_append]
    simpa using h8
  (with_reducible refine (key_any v8 (xs ++ ys) _ hO.rd HOA.out l3).mono ?_)
  rintro e w9 ⟨v9, rfl, ho9, hb9⟩
  have hB9 := hB8.trans (hb9.mono hB8.size)
  have hr3 := hr3.below hb9
  go_wp2_with fail
  (with_reducible refine (begins_same v9 v3 _ (keyR xs) (keyR ys) _ _ (key_app xs ys) ho9.rd hr3).mono ?_)
  rintro e w10 ⟨rfl, hb10⟩
  have hB10 := hB9.trans (hb10.mono hB9.size)
  go_wp2_with fail
  (with_reducible refine (works_any _).mono ?_)
  rintro e w11 ⟨rfl, hb11⟩
  go_wp2_with fail
  go_ret
  exact ⟨rfl, hB10.trans (hb11.mono hB10.size)⟩

set_option maxRecDepth 100000 in
set_option maxHeartbeats 2000000 in
theorem lawKeys_no1 (v u : Value) (xs : List Val) (w : World) (hv : RdV w (· < w.heap.size) v xs) (hg : ∀ x ∈ xs, goV x) (h1 : xs.all validV = false) :
    Calls Try.prog 4 #[v, u] w fun e w' => e = .returned (.bool true) ∧ Below w.heap.size w w' := by
  have HA := Lib.hid h1
  have HG := Lib.hid hg
  clear h1 hg
  go_enter Try.func4, Try.ntmps4
  go_wp2_with fail
  (with_reducible refine (lawValid_any v xs _ hv HG.out).mono ?_)
  rw [HA.out]
  rintro e w1 ⟨rfl, hb1⟩
  go_wp2_with fail
  (with_reducible refine (works_any _).mono ?_)
  rintro e w11 ⟨rfl, hb11⟩
  go_wp2_with fail
  go_ret
  exact ⟨rfl, hb1.trans (hb11.mono hb1.size)⟩

set_option maxRecDepth 100000 in
set_option maxHeartbeats 2000000 in
theorem lawKeys_no2 (v u : Value) (xs ys : List Val) (w : World) (hv : RdV w (· < w.heap.size) v xs) (hu : RdV w (· < w.heap.size) u ys) (hg : ∀ x ∈ xs, goV x) (hg' : ∀ x ∈ ys, goV x) (h1 : xs.all validV = true) (h2 : ys.all validV = false) :
    Calls Try.prog 4 #[v, u] w fun e w' => e = .returned (.bool true) ∧ Below w.heap.size w w' := by
  have HA := Lib.hid h1
  have HB := Lib.hid h2
  have HG := Lib.hid hg
  have HG' := Lib.hid hg'
  clear h1 hg h2 hg'
  go_enter Try.func4, Try.ntmps4
  go_wp2_with fail
  (with_reducible refine (lawValid_any v xs _ hv HG.out).mono ?_)
  rw [HA.out]
  rintro e w1 ⟨rfl, hb1⟩
  go_wp2_with fail
  (with_reducible refine (lawValid_any u ys _ (hu.below hb1) HG'.out).mono ?_)
  rw [HB.out]
  rintro e w2 ⟨rfl, hb2⟩
  have hB2 := hb1.trans (hb2.mono hb1.size)
  go_wp2_with fail
  (with_reducible refine (works_any _).mono ?_)
  rintro e w11 ⟨rfl, hb11⟩
  go_wp2_with fail
  go_ret
  exact ⟨rfl, hB2.trans (hb11.mono hB2.size)⟩
end Go.Proofs.Ythfclmkeadpcbaa
