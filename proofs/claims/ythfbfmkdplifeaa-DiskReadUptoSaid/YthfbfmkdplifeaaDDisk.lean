/-
 Disk
-/
import Derived.Test.YthfbfmkdplifeaaDFrame
import Derived.Laws.Externs
import Derived.MapKept
import Derived.Maps.OwnOps
import Derived.Maps.OwnSet
import Derived.Maps.Range
import Derived.StringKeys
import Derived.Test.YthfbfmkdplifeaaDBase
namespace Go.Proofs.Ythfbfmkdplifeaa
section
set_option maxRecDepth 100000
open Go.RowKit Go.Lib Go.IntWalk
/-- a byte that a name may have -/
def chB (c : UInt8) : Bool := decide (33 ≤ c.toNat) && decide (c.toNat ≤ 126)
def wordF (s : List UInt8) : Bool := !decide (s.length = 0) && decide (s.length ≤ 24) && s.all chB
theorem wordF_nil : wordF [] = false := rfl
theorem wordF_long {s : List UInt8} (h : 24 < s.length) : wordF s = false := by
 unfold wordF; rw [show decide (s.length ≤ 24) = false from by simp; omega]; simp
theorem wordF_bad {s : List UInt8} {k : Nat} (hk : k < s.length) (h : chB s[k] = false) : wordF s = false := by
 have : s.all chB = false := by
  rw [List.all_eq_false]
  exact ⟨s[k], List.getElem_mem hk, by rw [h]; simp⟩
 unfold wordF; rw [this]; simp
theorem wordF_good {s : List UInt8} (h0 : ¬ s.length = 0) (h1 : s.length ≤ 24) (h : s.all chB = true) : wordF s = true := by
 unfold wordF; rw [h]; simp; exact ⟨by intro e; subst e; simp at h0, h1⟩
theorem all_snoc {s : List UInt8} {k : Nat} (hk : k < s.length) (h : (s.take k).all chB = true) (hc : chB s[k] = true) : (s.take (k + 1)).all chB = true := by
 rw [List.take_succ_eq_append_getElem hk, List.all_append, h]
 simp [hc]
set_option maxRecDepth 100000 in
set_option maxHeartbeats 1000000 in
theorem dword_any (s : List UInt8) (w : World) : Calls Try.prog 12 #[.string (strB s)] w fun e w' => e = .returned (.bool (wordF s)) ∧ Below w.heap.size w w' := by
 have hsz := strB_size s
 by_cases h0 : s.length = 0
 ·obtain rfl : s = [] := List.eq_nil_of_length_eq_zero h0
  rw [wordF_nil]
  have b1 : (strB []).toList.isEmpty = true := by rw [ByteArray.toList_eq]; rfl
  generalize strB [] = S at *
  clear h0 hsz
  go_enter Try.func12, Try.ntmps12
  go_wp2_with fail
  go_ret
  exact ⟨rfl, Below.refl _ _⟩
 have b1 : (strB s).toList.isEmpty = false := by rw [ByteArray.toList_eq]; cases s <;> simp_all [strB]
 by_cases h1 : 24 < s.length
 ·rw [wordF_long h1]
  have q1 : (24 : Int) < ((strB s).size : Int) := by omega
  generalize strB s = S at *
  clear hsz h0 h1
  go_enter Try.func12, Try.ntmps12
  go_wp2_with fail
  go_ret
  exact ⟨rfl, Below.refl _ _⟩
 have q1 : ¬ (24 : Int) < ((strB s).size : Int) := by omega
 obtain ⟨x, W, hcv, hrd, hbW⟩ := conv_sb w (strB s) (by omega)
 rw [show (strB s).data.toList = s by simp [strB]] at hrd
 generalize strB s = S at *
 obtain ⟨A, c, rfl, hc1, hc2, hc3⟩ := hrd.open_
 unfold maxLen at hc2
 have H0 := Lib.hid h0
 clear hsz h0
 go_enter Try.func12, Try.ntmps12
 go_wp2_with fail
 go_loop [15] (fun i => ∃ k : Nat, k ≤ s.length ∧ i = .int .i64 k ∧ (s.take k).all chB = true) (fun i => s.length - (intOf i).toNat)
 case atStart => exact ⟨0, Nat.zero_le _, rfl, rfl⟩
 case round =>
  obtain ⟨k, hk, rfl, hp⟩ := hrel
  have HP := Lib.hid hp
  clear hp
  by_cases hlt : k < s.length
  ·obtain ⟨b, off, rfl, hF, g0⟩ := RdB.byte hrd hlt
   have HS := Lib.hid (@all_snoc s k hlt HP.out)
   have HB := Lib.hid (@wordF_bad s k hlt)
   generalize s[k] = ch at *
   have hc256 := ch.toNat_lt
   by_cases h2 : (ch.toNat : Int) < 33
   ·have hw : wordF s = false := HB.out (by unfold chB; simp; omega)
    have HW := Lib.hid hw
    clear hw
    go_wp2_with fail
    go_ret
    exact ⟨by rw [HW.out]; rfl, hbW⟩
   ·by_cases h3 : (126 : Int) < (ch.toNat : Int)
    ·have hw : wordF s = false := HB.out (by unfold chB; simp; omega)
     have HW := Lib.hid hw
     clear hw
     go_wp2_with fail
     go_ret
     exact ⟨by rw [HW.out]; rfl, hbW⟩
    ·have hch : chB ch = true := by unfold chB; simp; omega
     have HS2 := Lib.hid (HS.out hch)
     clear HS HB hch
     go_wp2_with fail
     go_round
     case rel => exact ⟨k + 1, by omega, by go_num, HS2.out⟩
     case measure => simp [intOf]; omega
  ·have hw : wordF s = true := wordF_good H0.out (by omega) (by have := HP.out; rwa [List.take_of_length_le (by omega)] at this)
   have HW := Lib.hid hw
   clear hw
   go_wp2_with fail
   go_ret
   exact ⟨by rw [HW.out]; rfl, hbW⟩
end
section
set_option maxRecDepth 100000
open Go.RowKit Go.Lib Go.IntWalk
theorem eq_nil (A : Option Addr) (n c : Nat) (w : World) : (binOp .eql 33 (.slice A n c) (.slice none 0 0)).run Try.prog w = .ok (.bool A.isNone) w := by
 simp only [binOp]
 rw [Sem.run_bind, run_equal_slice_nil w 33 5 A n c Try.underlying33]
 rfl
set_option maxRecDepth 100000 in
set_option maxHeartbeats 1000000 in
theorem clone_any (v : Value) (l : List UInt8) (w : World) (hv : RdB w (· < w.heap.size) v l) (hm : l.length ≤ 1099511627776) :
  Calls Try.prog 13 #[v] w (NewB w l) := by
 obtain ⟨A, c, rfl, hc1, hc2, hc3⟩ := hv.open_
 have hq := fun w => eq_nil A l.length c w
 cases A with
 | none =>
  obtain rfl : l = [] := List.eq_nil_of_length_eq_zero (by have := hc3 rfl; omega)
  obtain rfl : c = 0 := hc3 rfl
  clear hc3 hc2 hc1 hv hm
  simp only [List.length_nil, Option.isNone_none] at hq ⊢
  go_enter Try.func13, Try.ntmps13
  go_wp2_with fail
  go_ret
  exact ⟨_, rfl, OwnB.nil _ _, Below.refl _ _⟩
 | some x =>
  clear hc3
  simp only [Option.isNone_some] at hq
  go_enter Try.func13, Try.ntmps13
  go_wp2_with (at_builtin; refine wpList_append_b rfl (.tmp 5) (.tmp 6) rfl w.heap.size _ [] rfl (by exact own_empty _ _ _ _ (Nat.le_refl _)) (· < w.heap.size) _ l rfl (by exact Rd.alloc hv (Nat.le_refl _) _) (by simp; omega) (by simp) ?_; intro v3 w3 hO3 hb3 _ _)
  go_ret
  exact ⟨_, rfl, hO3, (Below.of_alloc _).trans hb3⟩
section
variable {P : Program} (w : World)
theorem run_eql_map_nil (t k e : TypeId) (p : Option Nat) (h : P.underlying t = some (.map k e)) :
  (binOp .eql t (.map p) (.map none)).run P w = .ok (.bool p.isNone) w := by
 have h1 : ∀ d : Nat, (Op.equalIn (d + 1) t (.map p) (.map none)).run P w = .ok p.isNone w := fun d => by cases p <;> simp [Op.equalIn, run_underlying h]
 simp only [binOp]
 rw [Sem.run_bind, show Op.equal t (.map p) (.map none) = Op.equalIn (9999 + 1) t (.map p) (.map none) from rfl, h1]
 rfl
theorem run_typeAssert_map (t xT k e : TypeId) (v : Value) (h : P.underlying t = some (.map k e)) : (Instr.typeAssert (.iface t v) xT t false).run P w = .ok v w := by
 simp [Instr.typeAssert, run_underlying h, go_sem, Result.andThen]
theorem run_maps_clone {r : Nat} {es : Array MapEntry} {clock : Nat} (t : TypeId) (hb : w.heap[r]? = some (.map es clock)) :
  (Extern.MapsClone.clone #[.iface t (.map (some r))]).run P w = .ok (.iface t (.map (some w.heap.size))) (w.alloc (.map es clock)) := by
 have e : Extern.MapsClone.clone #[.iface t (.map (some r))] = (getObj r >>= fun o => match o with
   | .map entries clock => (newObj (.map entries clock) >>= fun n => pure (.iface t (.map (some n))))
   | _ => stuck "maps.clone: a map expected") := rfl
 rw [e]
 simp [MapKept.run_getObj_map hb, Result.andThen, go_sem]
end
set_option maxRecDepth 100000 in
set_option maxHeartbeats 2000000 in
theorem mclone_raw (b : Nat) (es : Array MapEntry) (clock : Nat) (w : World) (hb : w.heap[b]? = some (.map es clock)) :
  Calls Try.prog 38 #[.map (some b)] w fun e w' => e = .returned (.map (some w.heap.size)) ∧ w' = w.alloc (.map es clock) := by
 have hq := fun w => run_eql_map_nil (P := Try.prog) w 44 _ _ (some b) Try.underlying44
 simp only [Option.isNone_some] at hq
 go_enter Try.func38, Try.ntmps38
 go_wp2
 rw [run_callFunc_extern Try.func42 (by kernel_rfl) (by kernel_rfl) (by kernel_rfl) (e := Extern.MapsClone.clone) (by kernel_rfl), run_maps_clone w 44 hb]
 simp only [Result.andThen]
 rw [Oper.upon_value]
 go_wp2
 rw [run_typeAssert_map _ 44 _ _ _ _ Try.underlying44]
 simp only [Result.andThen]
 rw [Oper.upon_value]
 go_wp2
 go_ret
 exact ⟨rfl, rfl⟩
end
section
set_option maxRecDepth 100000
open Go.RowKit Go.Lib Go.IntWalk Go.Maps
abbrev heldE (v : Value) : Option (DataW Value × List MemPlace) := some (.held v, [])
theorem lawS : Keyed Try.prog 9 := string_keyed Try.underlying9
theorem zeroS (w : World) : (zeroValue 33).run Try.prog w = .ok (.slice none 0 0) w := by kernel_rfl
theorem keyS (s : List UInt8) (h : s.length ≤ maxLen) : keyOf Try.prog 9 (.string (strB s)) = some (.string s) := by
 have := Go.WideMaps.keyOf_string_mk (P := Try.prog) Try.underlying9 (s := strB s) (by rw [strB_size]; exact h)
 simpa [strB] using this
theorem keyLit (s : List UInt8) : WideAt.IsKeyLit (.string s) := trivial
/-- block M is a map of at most n entries: at each key what g says -/
def MapIs (w : World) (M n : Nat) (g : List UInt8 → Option Value) : Prop :=
 ∃ D : DataW Value, w.ownsMap Try.prog 9 heldE M n D ∧ (∀ key, Maps.has D (.string key) = (g key).isSome) ∧ ∀ key z, D.atKey (.string key) (.held z) = .held ((g key).getD z)
def updG {α : Type} (g : List UInt8 → Option α) (k : List UInt8) (v : Option α) (x : List UInt8) : Option α := if x = k then v else g x
theorem MapIs.made (w : World) : MapIs (w.alloc (.map #[] 0)) w.heap.size 0 (fun _ => none) :=
 ⟨.map [], World.ownsMap_made _ _ _ _, fun _ => rfl, fun _ _ => rfl⟩
theorem MapIs.lt {w : World} {M n : Nat} {g : List UInt8 → Option Value} (h : MapIs w M n g) : M < w.heap.size := by
 obtain ⟨D, h, _⟩ := h; exact h.lt
theorem MapIs.mono {w : World} {M n n' : Nat} {g : List UInt8 → Option Value} (h : MapIs w M n g) (hn : n ≤ n') : MapIs w M n' g := by
 obtain ⟨D, h, h2⟩ := h; exact ⟨D, h.mono hn, h2⟩
theorem MapIs.block {w w' : World} {M n : Nat} {g : List UInt8 → Option Value} (h : MapIs w M n g) (hb : w'.heap[M]? = w.heap[M]?) : MapIs w' M n g := by
 obtain ⟨D, ⟨es, clock, h0, h1⟩, h2⟩ := h; exact ⟨D, ⟨es, clock, hb.trans h0, h1⟩, h2⟩
theorem MapIs.chg {w w' : World} {S : Nat → Prop} {M n : Nat} {g : List UInt8 → Option Value} (h : MapIs w M n g) (hc : Chg S w w') (hs : ¬ S M) : MapIs w' M n g := h.block (hc.block M h.lt hs)
theorem MapIs.obj {w : World} {M n : Nat} {g : List UInt8 → Option Value} (h : MapIs w M n g) : ∃ es clock, w.heap[M]? = some (.map es clock) := by
 obtain ⟨D, ⟨es, clock, h0, h1⟩, h2⟩ := h; exact ⟨es, clock, h0⟩
theorem MapIs.look {w : World} {M n : Nat} {g : List UInt8 → Option Value} (h : MapIs w M n g) (key : List UInt8) (hk : key.length ≤ maxLen) :
  (Instr.lookup 44 (.map (some M)) (.string (strB key)) false).run Try.prog w = .ok ((g key).getD (.slice none 0 0)) w := by
 obtain ⟨D, h, h1, h2⟩ := h
 obtain ⟨v, ps, hr, hv⟩ := h.lookup lawS Try.underlying44 (zeroS w) (zd := .held (.slice none 0 0)) (zp := []) rfl (keyS key hk)
 rw [h2] at hv
 simp only [heldE, Option.some.injEq, Prod.mk.injEq, DataW.held.injEq] at hv
 rw [hr, hv.1]
theorem MapIs.look_ok {w : World} {M n : Nat} {g : List UInt8 → Option Value} (h : MapIs w M n g) (key : List UInt8) (hk : key.length ≤ maxLen) :
  (Instr.lookup 44 (.map (some M)) (.string (strB key)) true).run Try.prog w = .ok (.tuple #[(g key).getD (.slice none 0 0), .bool (g key).isSome]) w := by
 obtain ⟨D, h, h1, h2⟩ := h
 obtain ⟨v, ps, hr, hv⟩ := h.look_ok lawS Try.underlying44 (zeroS w) (zd := .held (.slice none 0 0)) (zp := []) rfl (keyS key hk)
 rw [h2] at hv
 simp only [heldE, Option.some.injEq, Prod.mk.injEq, DataW.held.injEq] at hv
 rw [hr, hv.1, h1]
theorem MapIs.store {w : World} {M n : Nat} {g : List UInt8 → Option Value} (h : MapIs w M n g) (key : List UInt8) (hk : key.length ≤ maxLen) (hn : n < maxLen) (v : Value) :
  ∃ w', (Instr.mapUpdate 44 (.map (some M)) (.string (strB key)) v).run Try.prog w = .ok () w' ∧ MapIs w' M (n + 1) (updG g key (some v)) ∧ Chg (· = M) w w' := by
 obtain ⟨D, h, h1, h2⟩ := h
 obtain ⟨w', hr, ho, ht⟩ := h.store lawS Try.underlying44 hn (keyS key hk) (val := v) (d := .held v) (ps := []) rfl
 refine ⟨w', hr, ⟨_, ho, fun x => ?_, fun x z => ?_⟩, (Chg.of_grown ht.grown).mono fun i hi => Option.some.inj hi⟩
 ·by_cases hx : x = key
  ·subst hx; rw [has_put_same h.isMap (keyLit x), updG, if_pos rfl]; rfl
  ·rw [has_put_other (by simpa using hx), updG, if_neg hx]; exact h1 x
 ·by_cases hx : x = key
  ·subst hx; rw [atKey_put_same h.isMap (keyLit x), updG, if_pos rfl]; rfl
  ·rw [atKey_put_other (by simpa using hx), updG, if_neg hx]; exact h2 x z
theorem MapIs.drop {w : World} {M n : Nat} {g : List UInt8 → Option Value} (h : MapIs w M n g) (key : List UInt8) (hk : key.length ≤ maxLen) (ty : TypeId) :
  ∃ w', (Builtin.delete_ #[44, 9] ty #[.map (some M), .string (strB key)]).run Try.prog w = .ok (.tuple #[]) w' ∧ MapIs w' M n (updG g key none) ∧ Chg (· = M) w w' := by
 obtain ⟨D, h, h1, h2⟩ := h
 obtain ⟨w', hr, ho, ht⟩ := h.drop lawS Try.underlying44 (keyS key hk) ty
 refine ⟨w', hr, ⟨_, ho, fun x => ?_, fun x z => ?_⟩, (Chg.of_grown ht.grown).mono fun i hi => Option.some.inj hi⟩
 ·by_cases hx : x = key
  ·subst hx; rw [has_del_same, updG, if_pos rfl]; rfl
  ·rw [has_del_other (by simpa using hx), updG, if_neg hx]; exact h1 x
 ·by_cases hx : x = key
  ·subst hx; rw [atKey_del_same, updG, if_pos rfl]; rfl
  ·rw [atKey_del_other (by simpa using hx), updG, if_neg hx]; exact h2 x z
theorem mclone_any {w : World} {M n : Nat} {g : List UInt8 → Option Value} (h : MapIs w M n g) :
  Calls Try.prog 38 #[.map (some M)] w fun e w' => e = .returned (.map (some w.heap.size)) ∧ MapIs w' w.heap.size n g ∧ Below w.heap.size w w' := by
 obtain ⟨D, ⟨es, clock, hb, h1⟩, h2⟩ := h
 refine (mclone_raw M es clock w hb).mono ?_
 rintro e w' ⟨rfl, rfl⟩
 exact ⟨rfl, ⟨D, ⟨es, clock, heap_alloc_new w _, h1⟩, h2⟩, Below.of_alloc _⟩
end
section
set_option maxRecDepth 100000
open Go.RowKit Go.Lib Go.IntWalk
structure DOp where
 kind : Nat
 name : List UInt8
 to : List UInt8
 data : List UInt8
abbrev FM := List UInt8 → Option (List UInt8)
def applyF (fm : FM) (o : DOp) : FM :=
 if o.kind = 0 then updG fm o.name (some ((fm o.name).getD [] ++ o.data))
 else if o.kind = 1 then updG fm o.name none
 else if o.kind = 2 then updG (updG fm o.name none) o.to (some ((fm o.name).getD []))
 else fm
def viewF (fm : FM) (os : List DOp) : FM := os.foldl applyF fm
/-- at each key the map has a slice with the file's bytes, or neither has anything -/
def GRd [Inhabited Nb] (B : Nat) (w : World) (g : List UInt8 → Option Value) (fm : FM) : Prop :=
 ∀ key, (g key = none ∧ fm key = none) ∨ ∃ v l, g key = some v ∧ fm key = some l ∧ DatB B w v l
theorem GRd.start [Inhabited Nb] (B : Nat) (w : World) : GRd B w (fun _ => none) (fun _ => none) := fun _ => .inl ⟨rfl, rfl⟩
theorem GRd.chg {_ : Inhabited Nb} {B : Nat} {w w' : World} {S : Nat → Prop} {g : List UInt8 → Option Value} {fm : FM} (h : GRd B w g fm) (hB : B ≤ w.heap.size) (hc : Chg S w w') (hs : ∀ b, BR B w b → ¬ S b) : GRd B w' g fm := by
 intro key
 rcases h key with h | ⟨v, l, h1, h2, h3⟩
 ·exact .inl h
 ·exact .inr ⟨v, l, h1, h2, h3.chg hB hc hs⟩
theorem GRd.get {_ : Inhabited Nb} {B : Nat} {w : World} {g : List UInt8 → Option Value} {fm : FM} (h : GRd B w g fm) (key : List UInt8) : DatB B w ((g key).getD (.slice none 0 0)) ((fm key).getD []) := by
 rcases h key with ⟨h1, h2⟩ | ⟨v, l, h1, h2, h3⟩
 ·rw [h1, h2]; exact DatB.nil _ _
 ·rw [h1, h2]; exact h3
theorem GRd.some_eq {_ : Inhabited Nb} {B : Nat} {w : World} {g : List UInt8 → Option Value} {fm : FM} (h : GRd B w g fm) (key : List UInt8) : (g key).isSome = (fm key).isSome := by
 rcases h key with ⟨h1, h2⟩ | ⟨v, l, h1, h2, h3⟩ <;> rw [h1, h2] <;> rfl
theorem GRd.put {_ : Inhabited Nb} {B : Nat} {w : World} {g : List UInt8 → Option Value} {fm : FM} (h : GRd B w g fm) (key : List UInt8) {v : Value} {l : List UInt8} (hv : DatB B w v l) : GRd B w (updG g key (some v)) (updG fm key (some l)) := by
 intro x
 by_cases hx : x = key
 ·exact .inr ⟨v, l, by rw [updG, if_pos hx], by rw [updG, if_pos hx], hv⟩
 ·simp only [updG, if_neg hx]; exact h x
theorem GRd.del {_ : Inhabited Nb} {B : Nat} {w : World} {g : List UInt8 → Option Value} {fm : FM} (h : GRd B w g fm) (key : List UInt8) : GRd B w (updG g key none) (updG fm key none) := by
 intro x
 by_cases hx : x = key
 ·exact .inl ⟨by rw [updG, if_pos hx], by rw [updG, if_pos hx]⟩
 ·simp only [updG, if_neg hx]; exact h x
theorem BR_not_map {_ : Inhabited Nb} {B : Nat} {w : World} {M b : Nat} (hM : B ≤ M) (h : ∃ es clock, w.heap[M]? = some (.map es clock)) (hb : BR B w b) : ¬ b = M := by
 rintro rfl
 obtain ⟨es, clock, h⟩ := h
 rcases hb.old with hb | ⟨cs, fr, hb⟩
 ·omega
 ·rw [hb] at h; cases h
theorem BR_not_cells {_ : Inhabited Nb} {B : Nat} {w : World} {D b : Nat} {cs : Array Value} {t : TypeId} {fr : Nat × Nat} (hD : B ≤ D) (h : w.heap[D]? = some (.cells cs t fr)) (ht : ¬ t = 5) (hb : BR B w b) : ¬ b = D := by
 rintro rfl
 rcases hb.old with hb | ⟨cs', fr', hb⟩
 ·omega
 ·rw [hb] at h; simp only [Option.some.injEq, Obj.cells.injEq] at h; exact ht h.2.1.symm
end
section
set_option maxRecDepth 100000
open Go.RowKit Go.Lib Go.IntWalk
section
variable {w : World} {ops : Array Oper} {rest : List Oper} {o : Oper} {a : Act} {K : Act → World → Prop} {Q : Exit → Act → World → Prop}
theorem wp_mput (m x v : Operand) (hop : o.op = Op.mapUpdate 44 m x v) (M n : Nat) (g : List UInt8 → Option Value) (hm : a.eval m = .map (some M)) (h : MapIs w M n g) (hn : n < maxLen)
  (key : List UInt8) (hk : key.length ≤ maxLen) (hx : a.eval x = .string (strB key)) (val : Value) (hv : a.eval v = val)
  (hK : ∀ w', MapIs w' M (n + 1) (updG g key (some val)) → Chg (· = M) w w' → K (a.put o.dst undef) w') : o.wp Try.prog a w K Q := by
 obtain ⟨w', hrun, r1, r2⟩ := h.store key hk hn val
 unfold Oper.wp
 simp [execOp, hop, hm, hx, hv, hrun, Result.andThen]
 exact hK w' r1 r2
theorem wpList_mdel (hg : o.guard = none) (m x : Operand) (hop : o.op = Op.call { callee := Callee.builtin Builtin.delete, args := #[m, x], argTypes := #[44, 9] }) (M n : Nat) (g : List UInt8 → Option Value) (hm : a.eval m = .map (some M)) (h : MapIs w M n g)
  (key : List UInt8) (hk : key.length ≤ maxLen) (hx : a.eval x = .string (strB key))
  (hK : ∀ w', MapIs w' M n (updG g key none) → Chg (· = M) w w' → wpList Try.prog ops Q rest (a.put o.dst (.tuple #[])) w') : wpList Try.prog ops Q (o :: rest) a w := by
 refine wpList_plain hg fun K' hK' => ?_
 obtain ⟨w', hrun, r1, r2⟩ := h.drop key hk o.type
 unfold Oper.wp
 simp [execOp, hop, resolve, invoke, builtin, hm, hx, hrun, Result.andThen]
 exact hK' _ _ (hK w' r1 r2)
end
/-- what an operation leaves -/
def ApOut [Inhabited Nb] (B M n : Nat) (fm : FM) (w : World) (e : Ending) (w' : World) : Prop :=
 ∃ u g', e = .returned u ∧ MapIs w' M (n + 1) g' ∧ GRd B w' g' fm ∧ Chg (· = M) w w'
theorem DatB.drew {_ : Inhabited Nb} {B : Nat} {w : World} {v : Value} {l : List UInt8} (h : DatB B w v l) : DatB B w.drew v l := h
theorem DatB.alloc {_ : Inhabited Nb} {B : Nat} {w : World} {v : Value} {l : List UInt8} (h : DatB B w v l) (hB : B ≤ w.heap.size) (o : Obj) : DatB B (w.alloc o) v l := h.below hB (Below.of_alloc o)
theorem GRd.alloc {_ : Inhabited Nb} {B : Nat} {w : World} {g : List UInt8 → Option Value} {fm : FM} (h : GRd B w g fm) (hB : B ≤ w.heap.size) (o : Obj) : GRd B (w.alloc o) g fm := h.chg hB (Chg.alloc (Chg.refl (fun _ => False) w) o) (fun _ _ h => h)
theorem GRd.below {_ : Inhabited Nb} {B : Nat} {w w' : World} {g : List UInt8 → Option Value} {fm : FM} (h : GRd B w g fm) (hB : B ≤ w.heap.size) (hb : Below w.heap.size w w') : GRd B w' g fm := h.chg hB (Chg.of_below hb (fun _ => False)) (fun _ _ h => h)
theorem GRd.map {_ : Inhabited Nb} {B M : Nat} {w w' : World} {g : List UInt8 → Option Value} {fm : FM} (h : GRd B w g fm) (hB : B ≤ w.heap.size) (hM : B ≤ M) (ho : ∃ es clock, w.heap[M]? = some (.map es clock)) (hc : Chg (· = M) w w') : GRd B w' g fm :=
 h.chg hB hc (fun _ hb => BR_not_map hM ho hb)
theorem MapIs.alloc {w : World} {M n : Nat} {g : List UInt8 → Option Value} (h : MapIs w M n g) (o : Obj) : MapIs (w.alloc o) M n g := h.chg (Chg.alloc (Chg.refl (fun _ => False) w) o) (fun h => h)
section
variable {w : World} {o : Oper} {a : Act} {K : Act → World → Prop} {Q : Exit → Act → World → Prop}
/-- old[:n:n] with more bytes -/
theorem wp_append_dat {_ : Inhabited Nb} (s x : Operand) (ho : o.op = .call { callee := .builtin .append, args := #[s, x], argTypes := #[33, 33] })
  (B : Nat) (ad : Option Addr) (l : List UInt8) (hs : a.eval s = .slice ad l.length l.length) (hd : DatB B w (.slice ad l.length l.length) l) (xv : Value) (m : List UInt8) (hx : a.eval x = xv) (hr : DatB B w xv m)
  (hB : B ≤ w.heap.size) (hl : l.length + m.length ≤ 1099511627776)
  (h : ∀ v' w', DatB B w' v' (l ++ m) → Below w.heap.size w w' → K (a.put o.dst v') w') : o.wp Try.prog a w K Q := by
 obtain ⟨i0, hi, hz0, hz1, hz2⟩ := info_parts infoB
 by_cases hm : m = []
 ·subst hm
  obtain ⟨X, c, rfl, h1, h2, h3⟩ := Rd.open_ hr
  have hr0 := run_append_zero (P := Try.prog) w 33 o.type 5 i0 Try.underlying33 hi ad X l.length l.length c (Nat.le_refl _)
  unfold Oper.wp execOp
  simp only [List.length_nil] at hx
  simp only [ho, resolve, invoke, builtin, Sem.run_bind, Sem.run_pure, Result.andThen_ok, List.map_toArray, List.map_cons, List.map_nil, hs, hx, hr0]
  refine h _ w ?_ (Below.refl _ _)
  rw [List.append_nil]
  exact hd
 ·have h0 : 0 < m.length := by cases m <;> simp_all
  refine wp_append_app w s x 33 ho w.heap.size 5 i0 _ 1 1 Try.underlying33 hi hz0 hz1 hz2 rfl (by omega) _ l.length (bv l) hs (.inr ?_) (· < w.heap.size) xv m.length (bv m) hx (DatB.rd hr hB) (bv_one _) (by simp only [maxLen]; omega) (by omega) (Nat.le_refl _) ?_
  ·exact ⟨DatB.rd hd hB, ad, rfl⟩
  ·intro v' w' _ h2 _ h4 _
   exact h v' w' (DatB.of_own (ownB_of (h2 (.inl h0))) (fun _ => DatB.nb hr h0)) h4
end
theorem run_slice_him {P : Program} {t e : TypeId} {i : TypeInfo} (ht : P.underlying t = some (.slice e)) (hi : P.info? e = some i) (A : Option Addr) (n c h m : Nat) (h1 : h ≤ m) (h2 : m ≤ c) (w : World) :
  (Instr.slice t (.slice A n c) none (some (.int .i64 (h : Int))) (some (.int .i64 (m : Int)))).run P w = .ok (.slice A h m) w := by
 simp [Instr.slice, run_underlying ht, Instr.sliceBounds, Instr.sliceBound, asIntOf, sizeOf, typeInfo, hi, h1, h2, add_zero']
theorem DatB.whole {_ : Inhabited Nb} {B : Nat} {w : World} {A : Option Addr} {c : Nat} {l : List UInt8} (h : DatB B w (.slice A l.length c) l) : DatB B w (.slice A l.length l.length) l := by
 obtain ⟨h1, A', c', hv, h2, h3, h4, h5⟩ := h
 injection hv with e1 e2 e3
 subst e1; subst e3
 exact ⟨h1, A, l.length, rfl, Nat.le_refl _, by omega, fun h => by have := h4 h; omega, h5⟩
set_option maxRecDepth 100000 in
set_option maxHeartbeats 1000000 in
theorem apply_add {_ : Inhabited Nb} (B M n : Nat) (g : List UInt8 → Option Value) (fm : FM) (nm to : List UInt8) (dv : Value) (data : List UInt8) (w : World) (hB : B ≤ M) (hM : MapIs w M n g) (hG : GRd B w g fm) (hBw : B ≤ w.heap.size) (hk : nm.length ≤ maxLen) (hn : n < maxLen)
  (hd : DatB B w dv data) (hsum : ((fm nm).getD []).length + data.length ≤ 1099511627776) :
  Calls Try.prog 39 #[.map (some M), .agg #[.int .i64 0, .string (strB nm), .string (strB to), dv]] w (ApOut B M n (updG fm nm (some ((fm nm).getD [] ++ data))) w) := by
 have hMl := hM.lt
 have hM1 := hM.alloc (.cells #[.int .i64 0, .string (strB nm), .string (strB to), dv] 70)
 have hG1 := hG.alloc hBw (.cells #[.int .i64 0, .string (strB nm), .string (strB to), dv] 70)
 have hlk := hM1.look nm hk
 have hD0 := GRd.get hG1 nm
 have hDv := hd.alloc hBw (.cells #[.int .i64 0, .string (strB nm), .string (strB to), dv] 70)
 have hBw1 : B ≤ (w.alloc (.cells #[.int .i64 0, .string (strB nm), .string (strB to), dv] 70)).heap.size := by simp; omega
 have HF : Hid (∀ (w3 w2 : World) (v' : Value), DatB B w2 v' ((fm nm).getD [] ++ data) → Below (w.alloc (.cells #[.int .i64 0, .string (strB nm), .string (strB to), dv] 70)).heap.size (w.alloc (.cells #[.int .i64 0, .string (strB nm), .string (strB to), dv] 70)).drew w2 → MapIs w2 M n g → MapIs w3 M (n + 1) (updG g nm (some v')) → Chg (· = M) w2 w3 → ∀ u, ApOut B M n (updG fm nm (some ((fm nm).getD [] ++ data))) w (.returned u) w3) := by
  refine Lib.hid ?_
  intro w3 w2 v' h1 h2 h3 h4 h5 u
  have h2 := Below.undrew h2
  have hB2 : B ≤ w2.heap.size := by have := h2.size; simp at this; omega
  refine ⟨u, _, rfl, h4, ?_, ?_⟩
  ·exact ((GRd.below hG1 hBw1 h2).put nm h1).map hB2 hB h3.obj h5
  ·exact ((Chg.alloc (Chg.refl _ w) _).then_below h2).trans h5 (fun _ _ h => h)
 obtain ⟨i0, hi, hz0, hz1, hz2⟩ := info_parts infoB
 generalize hold : (fm nm).getD [] = old at *
 generalize (g nm).getD (.slice none 0 0) = ov at *
 obtain ⟨A, c, rfl, h1, h2, h3⟩ := Rd.open_ hD0
 have hsl := run_slice_him (P := Try.prog) Try.underlying33 hi A old.length c old.length old.length (Nat.le_refl _) h1
 have hD1 : DatB B (w.alloc (.cells #[.int .i64 0, .string (strB nm), .string (strB to), dv] 70)) (.slice A old.length old.length) old := DatB.whole hD0
 have HD1 := Lib.hid hD1
 have HI := Lib.hid hi
 have H3 := Lib.hid h3
 clear hold hD0 hi hz0 hz1 hz2 hG hG1 h3 hD1
 unfold maxLen at h2
 go_enter Try.func39, Try.ntmps39
 go_wp2_with fail
 refine wp_region_noPanic ?_
 refine wp_region_held_drew (S := (fun w' => w'.cell? ⟨w.heap.size, 1, none⟩ = some (.string (strB nm)) ∧ w'.cell? ⟨w.heap.size, 3, none⟩ = some dv)) (by kernel_rfl) ?_ (fun hHeld => ?_)
 ·exact ⟨box_cell w _ _ 1 rfl, box_cell w _ _ 3 rfl⟩
 refine heldTake 0 (some 14) (v := ?_) rfl rfl (by kernel_rfl) (by kernel_rfl) (by kernel_rfl) (by rfl) hHeld (fun _ _ _ h => h) ?_ ?_
 rotate_left
 ·intro w' hSw; (try dsimp only at hSw); go_simp <;> with_reducible rfl
 simp only [Act.put, List.setIfInBounds_toArray, List.set_cons_zero, List.set_cons_succ]
 refine heldTake 1 (some 15) (v := ?_) rfl rfl (by kernel_rfl) (by kernel_rfl) (by kernel_rfl) (by rfl) hHeld (fun _ _ _ h => h) ?_ ?_
 rotate_left
 ·intro w' hSw; (try dsimp only at hSw); go_simp <;> with_reducible rfl
 simp only [Act.put, List.setIfInBounds_toArray, List.set_cons_zero, List.set_cons_succ]
 refine heldTake 2 (some 16) (v := ?_) rfl rfl (by kernel_rfl) (by kernel_rfl) (by kernel_rfl) (by rfl) hHeld (fun _ _ _ h => h) ?_ ?_
 rotate_left
 ·intro w' hSw; (try dsimp only at hSw); obtain ⟨hc1, hc3⟩ := hSw; go_simp <;> with_reducible rfl
 simp only [Act.put, List.setIfInBounds_toArray, List.set_cons_zero, List.set_cons_succ]
 refine heldTake 3 (some 17) (v := ?_) rfl rfl (by kernel_rfl) (by kernel_rfl) (by kernel_rfl) (by rfl) hHeld (fun _ _ _ h => h) ?_ ?_
 rotate_left
 ·intro w' hSw; (try dsimp only at hSw); go_simp <;> with_reducible rfl
 simp only [Act.put, List.setIfInBounds_toArray, List.set_cons_zero, List.set_cons_succ]
 refine heldTake 4 (some 18) (v := ?_) rfl rfl (by kernel_rfl) (by kernel_rfl) (by kernel_rfl) (by rfl) hHeld (fun _ _ _ h => h) ?_ ?_
 rotate_left
 ·intro w' hSw; (try dsimp only at hSw); go_simp <;> with_reducible rfl
 simp only [Act.put, List.setIfInBounds_toArray, List.set_cons_zero, List.set_cons_succ]
 refine heldTake 5 (some 19) (v := ?_) rfl rfl (by kernel_rfl) (by kernel_rfl) (by kernel_rfl) (by rfl) hHeld (fun _ _ _ h => h) ?_ ?_
 rotate_left
 ·intro w' hSw; (try dsimp only at hSw); go_simp <;> with_reducible rfl
 simp only [Act.put, List.setIfInBounds_toArray, List.set_cons_zero, List.set_cons_succ]
 refine heldTake 6 (some 20) (v := ?_) rfl rfl (by kernel_rfl) (by kernel_rfl) (by kernel_rfl) (by rfl) hHeld (fun _ _ _ h => h) ?_ ?_
 rotate_left
 ·intro w' hSw; (try dsimp only at hSw); go_simp <;> with_reducible rfl
 simp only [Act.put, List.setIfInBounds_toArray, List.set_cons_zero, List.set_cons_succ]
 refine heldTake 7 (some 21) (v := ?_) rfl rfl (by kernel_rfl) (by kernel_rfl) (by kernel_rfl) (by rfl) hHeld (fun _ _ _ h => h) ?_ ?_
 rotate_left
 ·intro w' hSw; (try dsimp only at hSw); go_simp <;> with_reducible rfl
 simp only [Act.put, List.setIfInBounds_toArray, List.set_cons_zero, List.set_cons_succ]
 refine heldTake 8 (some 22) (v := ?_) rfl rfl (by kernel_rfl) (by kernel_rfl) (by kernel_rfl) (by rfl) hHeld (fun _ _ _ h => h) ?_ ?_
 rotate_left
 ·intro w' hSw; (try dsimp only at hSw); go_simp <;> with_reducible rfl
 simp only [Act.put, List.setIfInBounds_toArray, List.set_cons_zero, List.set_cons_succ]
 refine heldTake 9 (some 23) (v := ?_) rfl rfl (by kernel_rfl) (by kernel_rfl) (by kernel_rfl) (by rfl) hHeld (fun _ _ _ h => h) ?_ ?_
 rotate_left
 ·intro w' hSw; (try dsimp only at hSw); go_simp <;> with_reducible rfl
 simp only [Act.put, List.setIfInBounds_toArray, List.set_cons_zero, List.set_cons_succ]
 refine heldTake 10 (some 24) (v := ?_) rfl rfl (by kernel_rfl) (by kernel_rfl) (by kernel_rfl) (by rfl) hHeld (fun _ _ _ h => h) ?_ ?_
 rotate_left
 ·intro w' hSw; (try dsimp only at hSw); obtain ⟨hc1, hc3⟩ := hSw; go_simp <;> with_reducible rfl
 simp only [Act.put, List.setIfInBounds_toArray, List.set_cons_zero, List.set_cons_succ]
 refine heldOp 11 rfl (by kernel_rfl) (by rfl) ?_
 refine wp_append_dat (.tmp 22) (.tmp 24) rfl B A old rfl (DatB.drew HD1.out) _ _ rfl (DatB.drew hDv) hBw1 hsum ?_
 intro v' w2 hDv' hb2
 refine keepAnd ?_ (fun hNew => ?_)
 ·exact ⟨(hb2.cell (p := ⟨w.heap.size, 1, none⟩) (by simp)).trans (box_cell w _ _ 1 rfl), (hb2.cell (p := ⟨w.heap.size, 3, none⟩) (by simp)).trans (box_cell w _ _ 3 rfl)⟩
 clear hHeld
 have hHeld := hNew
 clear hNew
 simp only [Act.put, List.setIfInBounds_toArray, List.set_cons_zero, List.set_cons_succ]
 refine heldOp 12 rfl (by kernel_rfl) (by rfl) ?_
 have hM2 : MapIs w2 M n g := hM1.block (hb2.block M (by simp; omega))
 refine wp_mput (.tmp 14) (.tmp 16) (.tmp 25) rfl M n g rfl hM2 hn nm hk rfl _ rfl ?_
 intro w3 hM3 hc3
 refine keepAnd ?_ (fun hNew => ?_)
 ·exact ⟨(World.cell?_of_block (hc3.block w.heap.size (by have := hb2.size; simp at this; omega) (by omega))).trans ((hb2.cell (p := ⟨w.heap.size, 1, none⟩) (by simp)).trans (box_cell w _ _ 1 rfl)), (World.cell?_of_block (hc3.block w.heap.size (by have := hb2.size; simp at this; omega) (by omega))).trans ((hb2.cell (p := ⟨w.heap.size, 3, none⟩) (by simp)).trans (box_cell w _ _ 3 rfl))⟩
 clear hHeld
 have hHeld := hNew
 clear hNew
 simp only [Act.put]
 refine wpAnyH_done (by kernel_rfl) ?_ _
 refine NoPanic.normal ?_
 go_wp2_with fail
 go_end0
 exact HF.out w3 w2 v' hDv' hb2 hM2 hM3 hc3 _
set_option maxRecDepth 100000 in
set_option maxHeartbeats 1000000 in
theorem apply_del {_ : Inhabited Nb} (B M n : Nat) (g : List UInt8 → Option Value) (fm : FM) (nm to : List UInt8) (dv : Value) (w : World) (hB : B ≤ M) (hM : MapIs w M n g) (hG : GRd B w g fm) (hBw : B ≤ w.heap.size) (hk : nm.length ≤ maxLen) :
  Calls Try.prog 39 #[.map (some M), .agg #[.int .i64 1, .string (strB nm), .string (strB to), dv]] w (ApOut B M n (updG fm nm none) w) := by
 have hMl := hM.lt
 have hM1 := hM.alloc (.cells #[.int .i64 1, .string (strB nm), .string (strB to), dv] 70)
 have hG1 := hG.alloc hBw (.cells #[.int .i64 1, .string (strB nm), .string (strB to), dv] 70)
 go_enter Try.func39, Try.ntmps39
 go_wp2_with (at_delete; refine wpList_mdel rfl _ _ rfl M n g rfl hM1 nm hk rfl ?_; intro w1 hM2 hc1)
 go_end0
 refine ⟨_, _, rfl, hM2.mono (by omega), ?_, ?_⟩
 ·exact GRd.del (hG1.map (by simp; omega) hB hM1.obj hc1) nm
 ·exact (Chg.alloc (Chg.refl _ w) _).trans hc1 (fun _ _ h => h)
set_option maxRecDepth 100000 in
set_option maxHeartbeats 1000000 in
theorem apply_ren {_ : Inhabited Nb} (B M n : Nat) (g : List UInt8 → Option Value) (fm : FM) (nm to : List UInt8) (dv : Value) (w : World) (hB : B ≤ M) (hM : MapIs w M n g) (hG : GRd B w g fm) (hBw : B ≤ w.heap.size) (hk : nm.length ≤ maxLen) (hk2 : to.length ≤ maxLen) (hn : n < maxLen) :
  Calls Try.prog 39 #[.map (some M), .agg #[.int .i64 2, .string (strB nm), .string (strB to), dv]] w (ApOut B M n (updG (updG fm nm none) to (some ((fm nm).getD []))) w) := by
 have hMl := hM.lt
 have hM1 := hM.alloc (.cells #[.int .i64 2, .string (strB nm), .string (strB to), dv] 70)
 have hG1 := hG.alloc hBw (.cells #[.int .i64 2, .string (strB nm), .string (strB to), dv] 70)
 have hlk := hM1.look nm hk
 have hD0 := GRd.get hG1 nm
 generalize (g nm).getD (.slice none 0 0) = ov at *
 have HC : ∀ w1 : World, Chg (· = M) (w.alloc (.cells #[.int .i64 2, .string (strB nm), .string (strB to), dv] 70)) w1 → w1.cell? ⟨w.heap.size, 2, none⟩ = some (.string (strB to)) :=
  fun w1 hc1 => (World.cell?_of_block (hc1.block w.heap.size (by simp) (by omega))).trans (box_cell w _ _ 2 rfl)
 have HC' := Lib.hid HC
 clear HC
 go_enter Try.func39, Try.ntmps39
 go_wp2_with (at_delete; refine wpList_mdel rfl _ _ rfl M n g rfl hM1 nm hk rfl ?_; intro w1 hM2 hc1; have hcl := HC'.out w1 hc1; obtain ⟨w2, hst, hM3, hc2⟩ := hM2.store to hk2 hn ov)
 go_end0
 have hB1 : B ≤ w1.heap.size := by have := hc1.size; simp at this; omega
 refine ⟨_, _, rfl, hM3, ?_, ?_⟩
 ·refine GRd.map (GRd.put (GRd.del (hG1.map (by simp; omega) hB hM1.obj hc1) nm) to ?_) hB1 hB hM2.obj hc2
  exact hD0.chg (by simp; omega) hc1 (fun _ hb => BR_not_map hB hM1.obj hb)
 ·exact ((Chg.alloc (Chg.refl _ w) _).trans hc1 (fun _ _ h => h)).trans hc2 (fun _ _ h => h)
/-- one operation -/
theorem apply_any [Inhabited Nb] (B M n : Nat) (g : List UInt8 → Option Value) (fm : FM) (o : DOp) (dv : Value) (w : World) (hB : B ≤ M) (hM : MapIs w M n g) (hG : GRd B w g fm) (hBw : B ≤ w.heap.size) (hkd : o.kind ≤ 2) (hk : o.name.length ≤ maxLen) (hk2 : o.to.length ≤ maxLen) (hn : n < maxLen)
  (hd : DatB B w dv o.data) (hsum : ((fm o.name).getD []).length + o.data.length ≤ 1099511627776) :
  Calls Try.prog 39 #[.map (some M), .agg #[.int .i64 (o.kind : Int), .string (strB o.name), .string (strB o.to), dv]] w (ApOut B M n (applyF fm o) w) := by
 obtain ⟨kd, nm, to, data⟩ := o
 simp only at hkd hk hk2 hd hsum
 have : kd = 0 ∨ kd = 1 ∨ kd = 2 := by omega
 rcases this with rfl | rfl | rfl
 ·exact apply_add B M n g fm nm to dv data w hB hM hG hBw hk hn hd hsum
 ·exact apply_del B M n g fm nm to dv w hB hM hG hBw hk
 ·exact apply_ren B M n g fm nm to dv w hB hM hG hBw hk hk2 hn
end
section
set_option maxRecDepth 100000
open Go.RowKit Go.Lib Go.IntWalk
theorem flat_get {α β : Type} (n : Nat) (f : α → List β) (hf : ∀ x, (f x).length = n) (ps : List α) (k j : Nat) (hj : j < n) (x : α) (hx : ps[k]? = some x) : (ps.flatMap f)[k * n + j]? = (f x)[j]? := by
 induction ps generalizing k with
 | nil => simp at hx
 | cons p ps ih =>
  cases k with
  | zero =>
   simp only [List.getElem?_cons_zero, Option.some.injEq] at hx
   subst hx
   rw [List.flatMap_cons, Nat.zero_mul, Nat.zero_add, List.getElem?_append_left (by rw [hf]; exact hj)]
  | succ k =>
   simp only [List.getElem?_cons_succ] at hx
   rw [List.flatMap_cons, List.getElem?_append_right (by rw [hf, Nat.succ_mul]; omega), hf, show (k + 1) * n + j - n = k * n + j by rw [Nat.succ_mul]; omega]
   exact ih k hx
theorem flat_len {α β : Type} (n : Nat) (f : α → List β) (hf : ∀ x, (f x).length = n) (ps : List α) : (ps.flatMap f).length = ps.length * n := by
 induction ps with
 | nil => simp
 | cons p ps ih => rw [List.flatMap_cons, List.length_append, hf, ih, List.length_cons, Nat.succ_mul]; omega
/-- an operation's cells -/
def opC (p : DOp × Value) : List Value := [.int .i64 (p.1.kind : Int), .string (strB p.1.name), .string (strB p.1.to), p.2]
theorem opC_len (p : DOp × Value) : (opC p).length = 4 := rfl
def opCs (ps : List (DOp × Value)) : List Value := ps.flatMap opC
theorem opCs_get (ps : List (DOp × Value)) (k j : Nat) (hj : j < 4) (x : DOp × Value) (hx : ps[k]? = some x) : (opCs ps)[k * 4 + j]? = (opC x)[j]? := flat_get 4 opC opC_len ps k j hj x hx
theorem opCs_one (ps : List (DOp × Value)) (h : ∀ p ∈ ps, p.2.oneCell' = true) : ∀ u ∈ opCs ps, u.oneCell' = true := by
 intro u hu
 simp only [opCs, List.mem_flatMap, opC] at hu
 obtain ⟨p, hp, hu⟩ := hu
 simp only [List.mem_cons, List.not_mem_nil, or_false] at hu
 rcases hu with rfl | rfl | rfl | rfl
 ·rfl
 ·rfl
 ·rfl
 ·exact h p hp
/-- a row of operations -/
def OR (w : World) (b : Nat) : Prop := ∃ cs, w.heap[b]? = some (.cells cs 70 (0, 0))
/-- each operation's bytes -/
def OpsD [Inhabited Nb] (B : Nat) (w : World) (ps : List (DOp × Value)) : Prop := ∀ p ∈ ps, DatB B w p.2 p.1.data
/-- buffered operations, to be read -/
def PRd [Inhabited Nb] (B : Nat) (w : World) (v : Value) (os : List DOp) : Prop := ∃ ps : List (DOp × Value), ps.map (·.1) = os ∧ Rd w (OR w) 4 v ps.length (opCs ps) ∧ OpsD B w ps
/-- buffered operations, a row of the call's own -/
def POwn [Inhabited Nb] (B : Nat) (w : World) (v : Value) (os : List DOp) : Prop := ∃ ps : List (DOp × Value), ps.map (·.1) = os ∧ w.ownsRow B 70 4 v ps.length (opCs ps) ∧ OpsD B w ps
def dsum (os : List DOp) : Nat := (os.map (·.data.length)).sum
/-- sizes: within the budget Z -/
structure DSz (Z : Nat) (fm : FM) (os : List DOp) : Prop where
 file : ∀ key l, fm key = some l → l.length + dsum os ≤ Z
 all : dsum os ≤ Z
 op : ∀ o ∈ os, o.kind ≤ 2 ∧ o.name.length ≤ maxLen ∧ o.to.length ≤ maxLen
theorem DSz.get {Z : Nat} {fm : FM} {os : List DOp} (h : DSz Z fm os) (key : List UInt8) : ((fm key).getD []).length + dsum os ≤ Z := by
 cases hk : fm key with
 | none => simpa using h.all
 | some l => exact h.file key l hk
theorem DSz.step {Z : Nat} {fm : FM} {o : DOp} {os : List DOp} (h : DSz Z fm (o :: os)) : DSz Z (applyF fm o) os := by
 have hs : dsum (o :: os) = o.data.length + dsum os := by simp [dsum]
 have ha := h.all
 refine ⟨fun key l hl => ?_, by omega, fun x hx => h.op x (List.mem_cons_of_mem _ hx)⟩
 have hf : ∀ key l, fm key = some l → l.length + dsum os ≤ Z := fun key l hl => by have := h.file key l hl; omega
 unfold applyF at hl
 split at hl
 ·unfold updG at hl
  split at hl
  ·injection hl with hl
   subst hl
   have := h.get o.name
   rw [List.length_append]
   omega
  ·exact hf key l hl
 ·split at hl
  ·unfold updG at hl
   split at hl
   ·cases hl
   ·exact hf key l hl
  ·split at hl
   ·unfold updG at hl
    split at hl
    ·injection hl with hl
     subst hl
     have := h.get o.name
     omega
    ·split at hl
     ·cases hl
     ·exact hf key l hl
   ·exact hf key l hl
theorem DSz.take {Z : Nat} {fm : FM} {os : List DOp} (h : DSz Z fm os) (k : Nat) : DSz Z (viewF fm (os.take k)) (os.drop k) := by
 induction os generalizing fm k with
 | nil => simpa [viewF] using h
 | cons o os ih =>
  cases k with
  | zero => simpa [viewF] using h
  | succ k => simpa [viewF] using ih h.step k
theorem DSz.view {Z : Nat} {fm : FM} {os : List DOp} (h : DSz Z fm os) : DSz Z (viewF fm os) [] := by
 have := h.take os.length
 simpa using this
theorem viewF_succ {fm : FM} {os : List DOp} {k : Nat} {o : DOp} (h : os[k]? = some o) : viewF fm (os.take (k + 1)) = applyF (viewF fm (os.take k)) o := by
 obtain ⟨hk, e⟩ := List.getElem?_eq_some_iff.1 h
 rw [List.take_succ_eq_append_getElem hk, viewF, List.foldl_append, e]
 rfl
theorem dsum_drop {os : List DOp} {k : Nat} {o : DOp} (h : os[k]? = some o) : dsum (os.drop k) = o.data.length + dsum (os.drop (k + 1)) := by
 obtain ⟨hk, e⟩ := List.getElem?_eq_some_iff.1 h
 rw [List.drop_eq_getElem_cons hk, e]
 simp [dsum]
/-- a disk: its files and buffered operations, readable -/
def DiskRd [Inhabited Nb] (B Z : Nat) (w : World) (D : Nat) (fm : FM) (os : List DOp) : Prop :=
 ∃ M n g pv, w.heap[D]? = some (.cells #[.map (some M), pv] 47 (0, 0)) ∧ B ≤ D ∧ B ≤ M ∧ MapIs w M n g ∧ n + os.length ≤ Z ∧ GRd B w g fm ∧ PRd B w pv os ∧ DSz Z fm os
/-- a disk whose operations lie in block P -/
def DiskAt [Inhabited Nb] (B Z : Nat) (w : World) (D : Nat) (P : Option Nat) (fm : FM) (os : List DOp) : Prop :=
 ∃ M n g pv, w.heap[D]? = some (.cells #[.map (some M), pv] 47 (0, 0)) ∧ B ≤ D ∧ B ≤ M ∧ MapIs w M n g ∧ n + os.length ≤ Z ∧ GRd B w g fm ∧ POwn B w pv os ∧ DSz Z fm os ∧ pv.ownBlock = P
theorem PRd.of_own {_ : Inhabited Nb} {B : Nat} {w : World} {v : Value} {os : List DOp} (h : POwn B w v os) : PRd B w v os := by
 obtain ⟨ps, h1, h, h2⟩ := h
 refine ⟨ps, h1, ⟨h.1, ?_⟩, h2⟩
 rcases h.2 with ⟨rfl, h0⟩ | ⟨g, cap, cur, rfl, hb, hg, hnc, hcm, hcs, htake⟩
 ·rw [h0]
  exact ⟨none, 0, rfl, Nat.le_refl _, Nat.zero_le _, fun _ => rfl, fun h => absurd h (by omega)⟩
 ·exact ⟨_, cap, rfl, hnc, hcm, fun h => (Option.some_ne_none _ h).elim, fun _ => ⟨_, rfl, ⟨cur, hg⟩, World.ownsRow.cells (g := g) h rfl⟩⟩
theorem DiskAt.rd {_ : Inhabited Nb} {B Z : Nat} {w : World} {D : Nat} {P : Option Nat} {fm : FM} {os : List DOp} (h : DiskAt B Z w D P fm os) : DiskRd B Z w D fm os := by
 obtain ⟨M, n, g, pv, h1, h2, h3, h4, h5, h6, h7, h8, _⟩ := h
 exact ⟨M, n, g, pv, h1, h2, h3, h4, h5, h6, PRd.of_own h7, h8⟩
theorem OpsD.chg {_ : Inhabited Nb} {B : Nat} {w w' : World} {S : Nat → Prop} {ps : List (DOp × Value)} (h : OpsD B w ps) (hB : B ≤ w.heap.size) (hc : Chg S w w') (hs : ∀ b, BR B w b → ¬ S b) : OpsD B w' ps := fun p hp => (h p hp).chg hB hc hs
theorem PRd.below {_ : Inhabited Nb} {B : Nat} {w w' : World} {v : Value} {os : List DOp} (h : PRd B w v os) (hB : B ≤ w.heap.size) (hb : Below w.heap.size w w') : PRd B w' v os := by
 obtain ⟨ps, h1, h2, h3⟩ := h
 have hk : ∀ b, OR w b → w'.heap[b]? = w.heap[b]? := fun b ⟨cs, hb'⟩ => hb.block b (Array.getElem?_eq_some_iff.1 hb').1
 exact ⟨ps, h1, (Rd.keep h2 hk).wide fun b hb' => by obtain ⟨cs, e⟩ := hb'; exact ⟨cs, (hk b ⟨cs, e⟩).trans e⟩, h3.chg hB (Chg.of_below hb (fun _ => False)) (fun _ _ h => h)⟩
/-- an element of the row -/
theorem PRd.elem {w : World} {F : Nat → Prop} {A : Option Addr} {c : Nat} {ps : List (DOp × Value)} (h : Rd w F 4 (.slice A ps.length c) ps.length (opCs ps)) {k : Nat} {p : DOp × Value} (hk : ps[k]? = some p) :
  ∃ b off, A = some ⟨b, off, none⟩ ∧ F b ∧ w.cell? ⟨b, off + k * 4, none⟩ = some (.int .i64 (p.1.kind : Int)) ∧ w.cell? ⟨b, off + k * 4 + 1, none⟩ = some (.string (strB p.1.name)) ∧ w.cell? ⟨b, off + k * 4 + 2, none⟩ = some (.string (strB p.1.to)) ∧ w.cell? ⟨b, off + k * 4 + 3, none⟩ = some p.2 := by
 obtain ⟨hlt, _⟩ := List.getElem?_eq_some_iff.1 hk
 obtain ⟨b, off, rfl, hF, hc⟩ := Rd.plain h (by omega) (by omega)
 refine ⟨b, off, rfl, hF, ?_, ?_, ?_, ?_⟩
 ·exact hc (k * 4) _ (opCs_get ps k 0 (by omega) p hk)
 ·have := hc (k * 4 + 1) _ (opCs_get ps k 1 (by omega) p hk); rwa [← Nat.add_assoc] at this
 ·have := hc (k * 4 + 2) _ (opCs_get ps k 2 (by omega) p hk); rwa [← Nat.add_assoc] at this
 ·have := hc (k * 4 + 3) _ (opCs_get ps k 3 (by omega) p hk); rwa [← Nat.add_assoc] at this
/-- a new map with these files -/
def ViewOut [Inhabited Nb] (B N : Nat) (fm : FM) (w0 : World) (e : Ending) (w : World) : Prop :=
 ∃ M n g, e = .returned (.map (some M)) ∧ w0.heap.size ≤ M ∧ MapIs w M n g ∧ n ≤ N ∧ GRd B w g fm ∧ Below w0.heap.size w0 w
def ViewRel [Inhabited Nb] (B n0 M : Nat) (fm : FM) (os : List DOp) (w0 : World) (i : Value) (w : World) : Prop :=
 ∃ k : Nat, k ≤ os.length ∧ i = .int .i64 (k : Int) ∧ ∃ g, MapIs w M (n0 + k) g ∧ GRd B w g (viewF fm (os.take k)) ∧ Below w0.heap.size w0 w
set_option maxRecDepth 100000 in
set_option maxHeartbeats 2000000 in
theorem view_any [Inhabited Nb] (B Z D : Nat) (fm : FM) (os : List DOp) (w : World) (hB : B ≤ w.heap.size) (hD : DiskRd B Z w D fm os) (hZ : Z ≤ 1099511627776) :
  Calls Try.prog 30 #[.pointer (some ⟨D, 0, none⟩)] w (ViewOut B Z (viewF fm os) w) := by
 obtain ⟨M, n, g, pv, hb, hBD, hBM, hM, hn, hG, ⟨ps, hps, hP, hO⟩, hZs⟩ := hD
 have hl : os.length = ps.length := by rw [← hps, List.length_map]
 have hc0 : w.cell? ⟨D, 0, none⟩ = some (.map (some M)) := cell_of_row w D 0 _ _ _ hb
 have hc1 : w.cell? ⟨D, 1, none⟩ = some pv := cell_of_row w D 1 _ _ _ hb
 have hDl : D < w.heap.size := (Array.getElem?_eq_some_iff.1 hb).1
 obtain ⟨A, c, rfl, h1, h2, h3⟩ := Rd.open_ hP
 have HB := Lib.hid hb
 have HPS := Lib.hid hps
 have HL := Lib.hid hl
 have H3 := Lib.hid h3
 clear hps hb h3 hl
 unfold maxLen at h2
 go_enter Try.func30, Try.ntmps30
 go_wp2_with fail
 (with_reducible refine (mclone_any hM).mono ?_)
 rintro e w1 ⟨rfl, hM1, hb1⟩
 have hc1' : w1.cell? ⟨D, 1, none⟩ = some (.slice A ps.length c) := (hb1.cell (p := ⟨D, 1, none⟩) hDl).trans hc1
 clear hc1 hc0
 go_wp2_with fail
 go_loopw [16] (fun i wr => ViewRel B n w.heap.size fm os w i wr) (fun i _ => ps.length - (intOf i).toNat)
 case atStart => exact ⟨0, Nat.zero_le _, rfl, g, hM1, by simpa [viewF] using hG.below hB hb1, hb1⟩
 case round =>
  obtain ⟨k, hk, rfl, gk, hMk, hGk, hbk⟩ := hrel
  have hl := HL.out
  by_cases hlt : k < ps.length
  ·have hpk : ps[k]? = some ps[k] := List.getElem?_eq_getElem hlt
   have hok : os[k]? = some ps[k].1 := by rw [← HPS.out, List.getElem?_map, hpk]; rfl
   have hPk : Rd wr (fun b => b < w.heap.size) 4 (.slice A ps.length c) ps.length (opCs ps) := Rd.below (hP.wide fun b ⟨cs, e⟩ => (Array.getElem?_eq_some_iff.1 e).1) hbk
   obtain ⟨b, off, rfl, hF, g0, g1, g2, g3⟩ := PRd.elem hPk hpk
   have hdk : DatB B wr ps[k].2 ps[k].1.data := (hO _ (List.getElem_mem hlt)).below hB hbk
   have hmem : ps[k].1 ∈ os := List.mem_iff_getElem?.2 ⟨k, hok⟩
   have hop := hZs.op _ hmem
   have hsz := (hZs.take k).get ps[k].1.name
   rw [dsum_drop hok] at hsz
   have HV := Lib.hid (@viewF_succ fm os k _ hok)
   generalize ps[k] = p at *
   obtain ⟨o, dv⟩ := p
   simp only at *
   obtain ⟨Ad, cd, rfl, q1, q2, q3⟩ := Rd.open_ hdk
   have HO := Lib.hid hok
   have HP := Lib.hid hpk
   have HQ := Lib.hid q3
   clear q3
   have hBr : B ≤ wr.heap.size := by have := hbk.size; omega
   have hMl := hMk.lt
   have hdk1 := hdk.alloc hBr (.cells #[.int .i64 (o.kind : Int), .string (strB o.name), .string (strB o.to), .slice Ad o.data.length cd] 70)
   have hMk1 := hMk.alloc (.cells #[.int .i64 (o.kind : Int), .string (strB o.name), .string (strB o.to), .slice Ad o.data.length cd] 70)
   have hGk1 := hGk.alloc hBr (.cells #[.int .i64 (o.kind : Int), .string (strB o.name), .string (strB o.to), .slice Ad o.data.length cd] 70)
   clear hok hpk hl
   go_wp2_with fail
   (with_reducible refine (apply_any B w.heap.size (n + k) gk (viewF fm (os.take k)) o (.slice Ad o.data.length cd) _ ?_ ?_ ?_ ?_ ?_ ?_ ?_ ?_ ?_ ?_).mono ?_)
   ·omega
   ·exact hMk1
   ·exact hGk1
   ·simp; omega
   ·exact hop.1
   ·exact hop.2.1
   ·exact hop.2.2
   ·unfold maxLen; omega
   ·exact hdk1
   ·omega
   rintro e w2 ⟨u, g', rfl, hM2, hG2, hC2⟩
   go_wp2_with fail
   go_roundw
   case rel =>
    refine ⟨k + 1, by rw [HL.out]; omega, by go_num, g', hM2, by rw [HV.out]; exact hG2, ?_⟩
    exact ((hbk.alloc (by omega) _).trans (hC2.below (by simp; omega) (fun i hi => by omega)))
   case measure => simp [intOf]; omega
  ·have hke : k = os.length := by omega
   have HK := Lib.hid hke
   clear hke hl
   go_wp2_with fail
   go_ret
   refine ⟨_, n + k, gk, rfl, Nat.le_refl _, hMk, by have := HK.out; omega, ?_, hbk⟩
   have := HK.out
   rwa [this, List.take_length] at hGk
end
section
set_option maxRecDepth 100000
open Go.RowKit Go.Lib Go.IntWalk
/-- a block that no disk looks at -/
def NK (w : World) (b : Nat) : Prop := ∃ cs t fr, w.heap[b]? = some (.cells cs t fr) ∧ ¬ t = 5 ∧ ¬ t = 47 ∧ ¬ t = 70
section
variable {B Z : Nat} {w w' : World} {S : Nat → Prop} {D : Nat} {P : Option Nat} {fm : FM} {os : List DOp}
theorem NK.br [Inhabited Nb] {b : Nat} (hB : B ≤ b) (h : NK w b) : ¬ BR B w b := by
 obtain ⟨cs, t, fr, h1, h2, _⟩ := h
 intro hbr
 rcases hbr.old with h | ⟨cs', fr', h⟩
 ·omega
 ·rw [h] at h1; simp only [Option.some.injEq, Obj.cells.injEq] at h1; exact h2 h1.2.1.symm
theorem DiskAt.keep {_ : Inhabited Nb} (h : DiskAt B Z w D P fm os) (hB : B ≤ w.heap.size) (hc : Chg S w w') (hs : ∀ b, S b → B ≤ b ∧ NK w b) : DiskAt B Z w' D P fm os := by
 obtain ⟨M, n, g, pv, h1, h2, h3, h4, h5, h6, ⟨ps, q1, q2, q3⟩, h8, h9⟩ := h
 have hbr : ∀ b, BR B w b → ¬ S b := fun b hb hS => NK.br (hs b hS).1 (hs b hS).2 hb
 have hD : ¬ S D := fun hS => by
  obtain ⟨_, cs, t, fr, e, _, e2, _⟩ := hs D hS
  rw [h1] at e; simp only [Option.some.injEq, Obj.cells.injEq] at e; exact e2 e.2.1.symm
 have hM : ¬ S M := fun hS => by
  obtain ⟨_, cs, t, fr, e, _⟩ := hs M hS
  obtain ⟨es, clock, e'⟩ := h4.obj
  rw [e'] at e; cases e
 refine ⟨M, n, g, pv, (hc.block D (Array.getElem?_eq_some_iff.1 h1).1 hD).trans h1, h2, h3, h4.chg hc hM, h5, h6.chg hB hc hbr, ⟨ps, q1, ?_, q3.chg hB hc hbr⟩, h8, h9⟩
 refine ⟨q2.1, ?_⟩
 rcases q2.2 with ⟨rfl, h0⟩ | ⟨gb, cap, cur, rfl, hb, hg, hnc, hcm, hcs, htake⟩
 ·exact .inl ⟨rfl, h0⟩
 ·refine .inr ⟨gb, cap, cur, rfl, hb, ?_, hnc, hcm, hcs, htake⟩
  refine (hc.block gb (Array.getElem?_eq_some_iff.1 hg).1 fun hS => ?_).trans hg
  obtain ⟨_, cs, t, fr, e, _, _, e2⟩ := hs gb hS
  rw [hg] at e; simp only [Option.some.injEq, Obj.cells.injEq] at e; exact e2 e.2.1.symm
theorem DiskAt.below {_ : Inhabited Nb} (h : DiskAt B Z w D P fm os) (hB : B ≤ w.heap.size) (hb : Below w.heap.size w w') : DiskAt B Z w' D P fm os :=
 h.keep hB (Chg.of_below hb (fun _ => False)) (fun _ h => h.elim)
theorem DiskAt.drew {_ : Inhabited Nb} (h : DiskAt B Z w D P fm os) : DiskAt B Z w.drew D P fm os := h
theorem DiskAt.lt {_ : Inhabited Nb} (h : DiskAt B Z w D P fm os) : B ≤ D ∧ D < w.heap.size := by
 obtain ⟨M, n, g, pv, h1, h2, _⟩ := h; exact ⟨h2, (Array.getElem?_eq_some_iff.1 h1).1⟩
theorem DSz.mono {Z' : Nat} (h : DSz Z fm os) (hZ : Z ≤ Z') : DSz Z' fm os := ⟨fun k l hl => by have := h.file k l hl; omega, by have := h.all; omega, h.op⟩
theorem DiskAt.mono {_ : Inhabited Nb} {Z' : Nat} (h : DiskAt B Z w D P fm os) (hZ : Z ≤ Z') : DiskAt B Z' w D P fm os := by
 obtain ⟨M, n, g, pv, h1, h2, h3, h4, h5, h6, h7, h8, h9⟩ := h
 exact ⟨M, n, g, pv, h1, h2, h3, h4, by omega, h6, h7, h8.mono hZ, h9⟩
end
/-- a new disk -/
def DNew [Inhabited Nb] (B : Nat) (w0 : World) (e : Ending) (w : World) : Prop := ∃ D, e = .returned (.pointer (some ⟨D, 0, none⟩)) ∧ w0.heap.size ≤ D ∧ DiskAt B 0 w D none (fun _ => none) [] ∧ Below w0.heap.size w0 w
set_option maxHeartbeats 1000000 in
theorem dnew_any [Inhabited Nb] (B : Nat) (w : World) (hB : B ≤ w.heap.size) : Calls Try.prog 11 #[] w (DNew B w) := by
 have hmm : ∀ (t : TypeId) (w : World), (Instr.makeMap t none).run Try.prog w = .ok (.map (some w.heap.size)) (w.alloc (.map #[] 0)) := fun _ _ => rfl
 go_enter Try.func11, Try.ntmps11
 go_wp2_with fail
 go_ret
 refine ⟨w.heap.size + 1, rfl, by omega, ?_, (Below.of_alloc _).trans ((Below.of_alloc _).mono (by simp))⟩
 refine ⟨w.heap.size, 0, _, _, ?_, by omega, hB, (MapIs.made w).alloc _, Nat.le_refl _, (GRd.start _ _), ⟨[], rfl, World.ownsRow_nil _ _ _ _, fun p hp => by cases hp⟩, ⟨fun _ _ h => (by cases h), Nat.le_refl _, fun o ho => by cases ho⟩, rfl⟩
 have := heap_alloc_new (w.alloc (.map #[] 0)) (.cells #[.map (some w.heap.size), .slice none 0 0] 47)
 simpa using this
/-- the disk without buffered operations -/
def DSync [Inhabited Nb] (B Z D : Nat) (fm : FM) (w0 : World) (e : Ending) (w : World) : Prop := ∃ u, e = .returned u ∧ DiskAt B Z w D none fm [] ∧ Chg (· = D) w0 w
set_option maxRecDepth 100000 in
set_option maxHeartbeats 1000000 in
theorem dsync_any [Inhabited Nb] (B Z D : Nat) (fm : FM) (os : List DOp) (w : World) (hB : B ≤ w.heap.size) (hD : DiskRd B Z w D fm os) (hZ : Z ≤ 1099511627776) :
  Calls Try.prog 17 #[.pointer (some ⟨D, 0, none⟩)] w (DSync B Z D (viewF fm os) w) := by
 have CV := Lib.hid (view_any B Z D fm os w hB hD hZ)
 obtain ⟨M0, n0, g0, pv, hb, hBD, hBM, hM, hn, hG, hP, hZs⟩ := hD
 have HB := Lib.hid hb
 have hDl : D < w.heap.size := (Array.getElem?_eq_some_iff.1 hb).1
 clear hb hP
 go_enter Try.func17, Try.ntmps17
 go_wp2_with fail
 (with_reducible refine CV.out.mono ?_)
 rintro e w1 ⟨M, n, g, rfl, hMM, hM1, hn1, hG1, hb1⟩
 have hb' : w1.heap[D]? = some (.cells #[.map (some M0), pv] 47 (0, 0)) := (hb1.block D hDl).trans HB.out
 have q1 : w1.cell? ⟨D, 0, none⟩ = some (.map (some M0)) := cell_of_row w1 D 0 _ _ _ hb'
 have q2 : w1.frozen? ⟨D, 0, none⟩ = false := frozen_of_row w1 D 0 _ _ hb'
 have hb'' := heap_setCell_same w1 D 0 _ _ (.map (some M)) hb'
 have q3 : (w1.setCell ⟨D, 0, none⟩ (.map (some M))).cell? ⟨D, 1, none⟩ = some pv := cell_of_row _ D 1 _ _ _ hb''
 have q4 : (w1.setCell ⟨D, 0, none⟩ (.map (some M))).frozen? ⟨D, 1, none⟩ = false := frozen_of_row _ D 1 _ _ hb''
 have hb3 := heap_setCell_same _ D 1 _ _ (.slice none 0 0) hb''
 have HB1 := Lib.hid hb'
 have HB3 := Lib.hid hb3
 clear hb' hb'' hb3
 go_wp2_with fail
 go_end0
 have hC : Chg (· = D) w1 ((w1.setCell ⟨D, 0, none⟩ (.map (some M))).setCell ⟨D, 1, none⟩ (.slice none 0 0)) := Chg.setCell (S := (· = D)) (Chg.setCell (S := (· = D)) (Chg.refl _ w1) (.inl rfl) _) (.inl rfl) _
 have hB1 : B ≤ w1.heap.size := by have := hb1.size; omega
 refine ⟨_, rfl, ⟨M, n, g, .slice none 0 0, HB3.out, hBD, by omega, ?_, ?_, ?_, ⟨[], rfl, World.ownsRow_nil _ _ _ _, fun p hp => by cases hp⟩, hZs.view, rfl⟩, (Chg.of_below hb1 _).trans hC (fun _ _ h => h)⟩
 ·exact hM1.chg hC (by omega)
 ·simpa using hn1
 ·exact hG1.chg hB1 hC (fun b hb => BR_not_cells hBD HB1.out (by decide) hb)
/-- bytes and whether there are any -/
def DRead (o : Option (List UInt8)) (w0 : World) (e : Ending) (w : World) : Prop := ∃ v, e = .returned (.tuple #[v, .bool o.isSome]) ∧ OwnB w w0.heap.size v (o.getD []) ∧ Below w0.heap.size w0 w
set_option maxRecDepth 100000 in
set_option maxHeartbeats 1000000 in
theorem dread_any [Inhabited Nb] (B Z D : Nat) (fm : FM) (os : List DOp) (nm : List UInt8) (w : World) (hB : B ≤ w.heap.size) (hD : DiskRd B Z w D fm os) (hZ : Z ≤ 1099511627776) (hk : nm.length ≤ maxLen) :
  Calls Try.prog 9 #[.pointer (some ⟨D, 0, none⟩), .string (strB nm)] w (DRead (viewF fm os nm) w) := by
 have CV := Lib.hid (view_any B Z D fm os w hB hD hZ)
 have hZs : DSz Z fm os := by obtain ⟨M0, n0, g0, pv, hb, hBD, hBM, hM, hn, hG, hP, hZs⟩ := hD; exact hZs
 have hln := hZs.view.get nm
 generalize viewF fm os = vf at *
 go_enter Try.func9, Try.ntmps9
 go_wp2_with fail
 (with_reducible refine CV.out.mono ?_)
 rintro e w1 ⟨M, n, g, rfl, hMM, hM1, hn1, hG1, hb1⟩
 have hlk := hM1.look_ok nm hk
 have hD0 := GRd.get hG1 nm
 rw [GRd.some_eq hG1 nm] at hlk
 have hB1 : B ≤ w1.heap.size := by have := hb1.size; omega
 generalize (g nm).getD (.slice none 0 0) = ov at *
 generalize vf nm = o at *
 go_wp2_with fail
 (with_reducible refine (clone_any ov (o.getD []) w1 (hD0.rd hB1) ?_).mono ?_)
 ·omega
 rintro e w2 ⟨v, rfl, hO, hb2⟩
 go_wp2_with fail
 go_ret2
 exact ⟨_, rfl, OwnB.base hO hb1.size, hb1.trans (hb2.mono hb1.size)⟩
set_option maxRecDepth 100000 in
set_option maxHeartbeats 1000000 in
theorem dexists_any [Inhabited Nb] (B Z D : Nat) (fm : FM) (os : List DOp) (nm : List UInt8) (w : World) (hB : B ≤ w.heap.size) (hD : DiskRd B Z w D fm os) (hZ : Z ≤ 1099511627776) (hk : nm.length ≤ maxLen) :
  Calls Try.prog 34 #[.pointer (some ⟨D, 0, none⟩), .string (strB nm)] w fun e w' => e = .returned (.bool (viewF fm os nm).isSome) ∧ Below w.heap.size w w' := by
 have CV := Lib.hid (view_any B Z D fm os w hB hD hZ)
 generalize viewF fm os = vf at *
 generalize hob : (vf nm).isSome = o
 have HOB := Lib.hid hob
 clear hob
 go_enter Try.func34, Try.ntmps34
 go_wp2_with fail
 (with_reducible refine CV.out.mono ?_)
 rintro e w1 ⟨M, n, g, rfl, hMM, hM1, hn1, hG1, hb1⟩
 have hlk := hM1.look_ok nm hk
 rw [GRd.some_eq hG1 nm, HOB.out] at hlk
 generalize (g nm).getD (.slice none 0 0) = ov at *
 go_wp2_with fail
 go_ret
 exact ⟨rfl, hb1⟩
set_option maxHeartbeats 1000000 in
theorem dpending_any [Inhabited Nb] (B Z D : Nat) (P : Option Nat) (fm : FM) (os : List DOp) (w : World) (hD : DiskAt B Z w D P fm os) :
  Calls Try.prog 20 #[.pointer (some ⟨D, 0, none⟩)] w fun e w' => e = .returned (.int .i64 (os.length : Int)) ∧ w = w' := by
 obtain ⟨M, n, g, pv, hb, hBD, hBM, hM, hn, hG, ⟨ps, hps, hP, hO⟩, hZs⟩ := hD.rd
 have hl : os.length = ps.length := by rw [← hps, List.length_map]
 have hc1 : w.cell? ⟨D, 1, none⟩ = some pv := cell_of_row w D 1 _ _ _ hb
 obtain ⟨A, c, rfl, h1, h2, h3⟩ := Rd.open_ hP
 rw [hl]
 clear hl hps hb h3 hP hO hZs hD hG hM hn
 go_enter Try.func20, Try.ntmps20
 go_wp2_with fail
 go_ret
 exact ⟨rfl, rfl⟩
end
section
set_option maxRecDepth 100000
open Go.RowKit Go.Lib Go.IntWalk
theorem own_setCell {w : World} {base : Nat} {e : TypeId} {size n : Nat} {v : Value} {cs : List Value} (h : w.ownsRow base e size v n cs) {p : Addr} (hp : v.ownBlock ≠ some p.block) (u : Value) : (w.setCell p u).ownsRow base e size v n cs :=
 World.ownsRow.kept (row := some p.block) h ⟨rfl, rfl, rfl, by simp [World.setCell], fun k _ hne => Below.heap_setCell _ _ _ _ (fun e => hne (by rw [e]))⟩ (.inr hp)
theorem own_below {w w' : World} {base : Nat} {e : TypeId} {size n : Nat} {v : Value} {cs : List Value} (h : w.ownsRow base e size v n cs) (hb : Below w.heap.size w w') : w'.ownsRow base e size v n cs :=
 World.ownsRow.kept (row := none) h ⟨hb.os, hb.tape, hb.output, hb.size, fun k hk _ => hb.block k hk⟩ (by cases v.ownBlock <;> simp)
theorem own_block {w : World} {base : Nat} {e : TypeId} {size n : Nat} {v : Value} {cs : List Value} (h : w.ownsRow base e size v n cs) {b : Nat} (hb : some b = v.ownBlock) : base ≤ b ∧ ∃ cur, w.heap[b]? = some (.cells cur e (0, 0)) := by
 rcases h.2 with ⟨rfl, h0⟩ | ⟨g, cap, cur, rfl, hB, hg, hnc, hcm, hcs, htake⟩
 ·cases hb
 ·simp only [Value.ownBlock, Option.some.injEq] at hb
  subst hb
  exact ⟨hB, cur, hg⟩
theorem own_not_disk {w : World} {base D : Nat} {size n : Nat} {v : Value} {cs : List Value} (h : w.ownsRow base 70 size v n cs) {xs : Array Value} (hD : w.heap[D]? = some (.cells xs 47 (0, 0))) : some D ≠ v.ownBlock := by
 intro e
 obtain ⟨_, cur, hc⟩ := own_block h e
 rw [hD] at hc
 simp only [Option.some.injEq, Obj.cells.injEq] at hc
 exact absurd hc.2.1 (by decide)
theorem opC_one (p : DOp × Value) (h : p.2.oneCell' = true) : ∀ u ∈ opC p, u.oneCell' = true := by
 intro u hu
 simp only [opC, List.mem_cons, List.not_mem_nil, or_false] at hu
 rcases hu with rfl | rfl | rfl | rfl <;> first | rfl | exact h
theorem infoO : (Try.prog.info? 70).map (fun i => (i.zero, i.size, i.bytes)) = some (some (.agg #[.int .i64 0, .string (strB []), .string (strB []), .slice none 0 0]), 4, 64) := by kernel_rfl
theorem DSz.push {Z : Nat} {fm : FM} {os : List DOp} {o : DOp} (h : DSz Z fm os) (h1 : o.kind ≤ 2) (h2 : o.name.length ≤ maxLen) (h3 : o.to.length ≤ maxLen) : DSz (Z + o.data.length + 1) fm (os ++ [o]) := by
 have hs : dsum (os ++ [o]) = dsum os + o.data.length := by simp [dsum]
 refine ⟨fun key l hl => ?_, ?_, fun x hx => ?_⟩
 ·have := h.file key l hl; omega
 ·have := h.all; omega
 ·rcases List.mem_append.1 hx with hx | hx
  ·exact h.op x hx
  ·rw [List.mem_singleton] at hx; subst hx; exact ⟨h1, h2, h3⟩
/-- one operation more -/
def DPush [Inhabited Nb] (B Z D : Nat) (P : Option Nat) (fm : FM) (os : List DOp) (w0 w : World) : Prop :=
 ∃ P', DiskAt B Z w D P' fm os ∧ (P' = P ∨ ∃ p, P' = some p ∧ w0.heap.size ≤ p) ∧ Chg (fun b => b = D ∨ some b = P) w0 w
theorem push_done {_ : Inhabited Nb} {B Z D : Nat} {fm : FM} {os : List DOp} {M n : Nat} {g : List UInt8 → Option Value} {pv v' : Value} {w0 w w' : World} {ps : List (DOp × Value)} {o : DOp} {dv : Value}
  (hb0 : Below w0.heap.size w0 w) (hB0 : B ≤ w0.heap.size)
  (hD : w.heap[D]? = some (.cells #[.map (some M), pv] 47 (0, 0))) (hBD : B ≤ D) (hBM : B ≤ M) (hM : MapIs w M n g) (hn : n + os.length ≤ Z) (hG : GRd B w g fm)
  (hps : ps.map (·.1) = os) (hO : OpsD B w ps) (hown0 : w0.ownsRow B 70 4 pv ps.length (opCs ps)) (hdv : DatB B w dv o.data) (hZ : DSz Z fm os) (h1 : o.kind ≤ 2) (h2 : o.name.length ≤ maxLen) (h3 : o.to.length ≤ maxLen)
  (hown' : w'.ownsRow B 70 4 v' (ps.length + 1) (opCs ps ++ opC (o, dv))) (hg : w.grownBy w' pv.ownBlock) (hv : v'.ownBlock = pv.ownBlock ∨ v'.ownBlock = some w.heap.size) :
  DPush B (Z + o.data.length + 1) D pv.ownBlock fm (os ++ [o]) w0 (w'.setCell ⟨D, 1, none⟩ v') := by
 have hown : w.ownsRow B 70 4 pv ps.length (opCs ps) := own_below hown0 hb0
 have hnd := own_not_disk hown hD
 have hDl := (Array.getElem?_eq_some_iff.1 hD).1
 have hD' := (hg.block D hDl hnd).trans hD
 have hC : Chg (fun b => b = D ∨ some b = pv.ownBlock) w (w'.setCell ⟨D, 1, none⟩ v') := Chg.setCell (S := fun b => b = D ∨ some b = pv.ownBlock) ((Chg.of_grown hg).mono (fun i hi => Or.inr hi)) (.inl (Or.inl rfl)) _
 have hBw : B ≤ w.heap.size := by have := hb0.size; omega
 have hbr : ∀ b, BR B w b → ¬ (b = D ∨ some b = pv.ownBlock) := by
  rintro b hb (rfl | e)
  ·exact BR_not_cells hBD hD (by decide) hb rfl
  ·obtain ⟨e1, cur, e2⟩ := own_block hown e
   exact BR_not_cells e1 e2 (by decide) hb rfl
 have hnM : ¬ (M = D ∨ some M = pv.ownBlock) := by
  obtain ⟨es, clock, hm⟩ := hM.obj
  rintro (rfl | e)
  ·rw [hD] at hm; cases hm
  ·obtain ⟨e1, cur, e2⟩ := own_block hown e
   rw [e2] at hm; cases hm
 refine ⟨v'.ownBlock, ⟨M, n, g, v', ?_, hBD, hBM, hM.chg hC hnM, ?_, hG.chg hBw hC hbr, ⟨ps ++ [(o, dv)], ?_, ?_, ?_⟩, hZ.push h1 h2 h3, rfl⟩, ?_, ?_⟩
 ·have := heap_setCell_same w' D 1 _ _ v' hD'
  simpa using this
 ·rw [List.length_append]; simp; omega
 ·rw [List.map_append, hps]; rfl
 ·have e : opCs (ps ++ [(o, dv)]) = opCs ps ++ opC (o, dv) := by simp [opCs]
  rw [e, List.length_append]
  refine own_setCell hown' ?_ _
  intro e
  rcases hv with hv | hv
  ·exact hnd (by rw [← hv]; exact e.symm)
  ·rw [hv] at e; injection e with e; have e : w.heap.size = D := e; omega
 ·intro p hp
  rcases List.mem_append.1 hp with hp | hp
  ·exact (hO p hp).chg hBw hC hbr
  ·rw [List.mem_singleton] at hp; subst hp; exact hdv.chg hBw hC hbr
 ·rcases hv with hv | hv
  ·exact .inl hv
  ·exact .inr ⟨_, hv, hb0.size⟩
 ·exact (Chg.of_below hb0 _).trans hC (fun _ _ h => h)
/-- the result of an operation that is buffered -/
def DOut [Inhabited Nb] (B Z D : Nat) (P : Option Nat) (fm : FM) (os : List DOp) (r : Int) (w0 : World) (e : Ending) (w : World) : Prop := e = .returned (.int .i64 r) ∧ DPush B Z D P fm os w0 w
theorem DPush.same {_ : Inhabited Nb} {B Z D : Nat} {P : Option Nat} {fm : FM} {os : List DOp} {w w' : World} (h : DiskAt B Z w D P fm os) (hB : B ≤ w.heap.size) (hb : Below w.heap.size w w') (Z' : Nat) (hZ : Z ≤ Z') : DPush B Z' D P fm os w w' :=
 ⟨P, (h.below hB hb).mono hZ, .inl rfl, Chg.of_below hb _⟩
set_option maxHeartbeats 1000000 in
theorem dappend_bad [Inhabited Nb] (B Z D : Nat) (P : Option Nat) (fm : FM) (os : List DOp) (nm : List UInt8) (v : Value) (w : World) (hB : B ≤ w.heap.size) (hD : DiskAt B Z w D P fm os) (hw : wordF nm = false) (Z' : Nat) (hZ : Z ≤ Z') :
  Calls Try.prog 16 #[.pointer (some ⟨D, 0, none⟩), .string (strB nm), v] w (DOut B Z' D P fm os 8 w) := by
 have CW := Lib.hid (dword_any nm w)
 have HW := Lib.hid hw
 clear hw
 go_enter Try.func16, Try.ntmps16
 go_wp2_with fail
 (with_reducible refine CW.out.mono ?_)
 rintro e w1 ⟨rfl, hb1⟩
 rw [HW.out]
 go_wp2_with fail
 go_ret
 exact ⟨rfl, DPush.same hD hB hb1 Z' hZ⟩
set_option maxRecDepth 100000 in
set_option maxHeartbeats 2000000 in
theorem dappend_ok [Inhabited Nb] (B Z D : Nat) (P : Option Nat) (fm : FM) (os : List DOp) (nm : List UInt8) (v : Value) (data : List UInt8) (w : World) (hB : B ≤ w.heap.size) (hnb : NB < w.heap.size) (hD : DiskAt B Z w D P fm os) (hw : wordF nm = true) (hv : RdB w (· < w.heap.size) v data) (hdl : data.length ≤ 1099511627776) (hZ : Z ≤ 1099511627776) :
  Calls Try.prog 16 #[.pointer (some ⟨D, 0, none⟩), .string (strB nm), v] w (DOut B (Z + data.length + 1) D P fm (os ++ [⟨0, nm, [], data⟩]) 0 w) := by
 have CW := Lib.hid (dword_any nm w)
 have HW := Lib.hid hw
 have hnl : nm.length ≤ maxLen := by
  unfold wordF at hw; simp only [Bool.and_eq_true, decide_eq_true_eq] at hw; unfold maxLen; omega
 clear hw
 have hDat := hD
 obtain ⟨M, n, g, pv, hb, hBD, hBM, hM, hn, hG, ⟨ps, hps, hown, hO⟩, hZs, rfl⟩ := hD
 have hpl : ps.length ≤ Z := by have := congrArg List.length hps; rw [List.length_map] at this; omega
 have HB := Lib.hid hb
 have HPS := Lib.hid hps
 have hDl : D < w.heap.size := (Array.getElem?_eq_some_iff.1 hb).1
 obtain ⟨i0, hi, hz0, hz1, hz2⟩ := info_parts infoO
 have HI := Lib.hid hi
 have HZ0 := Lib.hid hz0
 have HZ1 := Lib.hid hz1
 have HZ2 := Lib.hid hz2
 clear hi hz0 hz1 hz2 hb hps
 go_enter Try.func16, Try.ntmps16
 go_wp2_with fail
 (with_reducible refine CW.out.mono ?_)
 rintro e w1 ⟨rfl, hb1⟩
 rw [HW.out]
 have k1 : w1.cell? ⟨D, 1, none⟩ = some pv := cell_of_row w1 D 1 _ _ _ ((hb1.block D hDl).trans HB.out)
 go_wp2_with fail
 refine wp_region_noPanic ?_
 refine beginT (S := (fun w' => w'.cell? ⟨D, 1, none⟩ = some pv)) 13 (by kernel_rfl) ?_ (fun hHeld => ?_)
 ·exact k1
 refine takeT 0 (some 12) (v := ?_) rfl rfl (by kernel_rfl) (by kernel_rfl) (by kernel_rfl) (by kernel_rfl) (by rfl) hHeld (fun _ _ _ h => h) ?_ ?_
 rotate_left
 ·intro w' hSw; (try dsimp only at hSw); go_simp <;> with_reducible rfl
 simp only [Act.put, List.setIfInBounds_toArray, List.set_cons_zero, List.set_cons_succ]
 refine takeT 1 (some 13) (v := ?_) rfl rfl (by kernel_rfl) (by kernel_rfl) (by kernel_rfl) (by kernel_rfl) (by rfl) hHeld (fun _ _ _ h => h) ?_ ?_
 rotate_left
 ·intro w' hSw; (try dsimp only at hSw); go_simp <;> with_reducible rfl
 simp only [Act.put, List.setIfInBounds_toArray, List.set_cons_zero, List.set_cons_succ]
 refine takeT 2 (some 14) (v := ?_) rfl rfl (by kernel_rfl) (by kernel_rfl) (by kernel_rfl) (by kernel_rfl) (by rfl) hHeld (fun _ _ _ h => h) ?_ ?_
 rotate_left
 ·intro w' hSw; (try dsimp only at hSw); go_simp <;> with_reducible rfl
 simp only [Act.put, List.setIfInBounds_toArray, List.set_cons_zero, List.set_cons_succ]
 refine takeT 3 (some 15) (v := ?_) rfl rfl (by kernel_rfl) (by kernel_rfl) (by kernel_rfl) (by kernel_rfl) (by rfl) hHeld (fun _ _ _ h => h) ?_ ?_
 rotate_left
 ·intro w' hSw; (try dsimp only at hSw); go_simp <;> with_reducible rfl
 simp only [Act.put, List.setIfInBounds_toArray, List.set_cons_zero, List.set_cons_succ]
 refine takeT 4 (some 16) (v := ?_) rfl rfl (by kernel_rfl) (by kernel_rfl) (by kernel_rfl) (by kernel_rfl) (by rfl) hHeld (fun _ _ _ h => h) ?_ ?_
 rotate_left
 ·intro w' hSw; (try dsimp only at hSw); go_simp <;> with_reducible rfl
 simp only [Act.put, List.setIfInBounds_toArray, List.set_cons_zero, List.set_cons_succ]
 refine takeT 5 (some 17) (v := ?_) rfl rfl (by kernel_rfl) (by kernel_rfl) (by kernel_rfl) (by kernel_rfl) (by rfl) hHeld (fun _ _ _ h => h) ?_ ?_
 rotate_left
 ·intro w' hSw; (try dsimp only at hSw); go_simp <;> with_reducible rfl
 simp only [Act.put, List.setIfInBounds_toArray, List.set_cons_zero, List.set_cons_succ]
 refine takeT 6 (some 18) (v := ?_) rfl rfl (by kernel_rfl) (by kernel_rfl) (by kernel_rfl) (by kernel_rfl) (by rfl) hHeld (fun _ _ _ h => h) ?_ ?_
 rotate_left
 ·intro w' hSw; (try dsimp only at hSw); go_simp <;> with_reducible rfl
 simp only [Act.put, List.setIfInBounds_toArray, List.set_cons_zero, List.set_cons_succ]
 refine callT 7 (some 19) (f := ?_) (args := ?_) rfl rfl (by kernel_rfl) (by rfl) ?_ ?_
 rotate_left 2
 ·go_simp <;> first | (constructor <;> with_reducible rfl) | with_reducible rfl
 (with_reducible refine (clone_any v data _ ?_ hdl).mono ?_)
 ·exact Rd.drew (hv.below hb1)
 rintro e w2 ⟨vd, rfl, hOd, hb2⟩
 obtain ⟨Ad, cd, rfl, j1, j2, j3⟩ := Rd.open_ hOd.rd
 clear j3 j2
 refine ⟨_, rfl, keepAnd ?_ (fun hNew => ?_)⟩
 ·intro _; exact (World.cell?_of_block (hb2.block D (by have := hb1.size; simp; omega))).trans k1
 have hNew := hNew (by decide)
 clear hHeld
 have hHeld := hNew
 clear hNew
 simp only [Act.put, List.setIfInBounds_toArray, List.set_cons_zero, List.set_cons_succ]
 have hbw2 : Below w.heap.size w w2 := hb1.trans ((Below.undrew hb2).mono hb1.size)
 have hDat2 := hDat.below hB hbw2
 have hbD2 : w2.heap[D]? = some (.cells #[.map (some M), pv] 47 (0, 0)) := (hbw2.block D hDl).trans HB.out
 have hbD3 : (w2.alloc (.cells #[.int .i64 0, .string (strB nm), .string ⟨#[]⟩, .slice Ad data.length cd] 70)).heap[D]? = some (.cells #[.map (some M), pv] 47 (0, 0)) := (Below.heap_alloc w2 _ D (hDat2.lt).2).trans hbD2
 have hown2 : w2.ownsRow B 70 4 pv ps.length (opCs ps) := own_below hown hbw2
 have hown3 : (w2.alloc (.cells #[.int .i64 0, .string (strB nm), .string ⟨#[]⟩, .slice Ad data.length cd] 70)).ownsRow B 70 4 pv ps.length (opCs ps) := own_alloc hown2 _
 have hnew : Rd (w2.alloc (.cells #[.int .i64 0, .string (strB nm), .string ⟨#[]⟩, .slice Ad data.length cd] 70)) (· = w2.heap.size) 4 (.slice (some ⟨w2.heap.size, 0, none⟩) 1 1) 1 (opC (⟨0, nm, [], data⟩, .slice Ad data.length cd)) := Rd.new w2 (opC (⟨0, nm, [], data⟩, .slice Ad data.length cd)) 70 4 1 rfl (by unfold maxLen; omega)
 have hBs2 : B ≤ w2.heap.size := by have := hbw2.size; omega
 refine takeT 8 (some 20) (v := ?_) rfl rfl (by kernel_rfl) (by kernel_rfl) (by kernel_rfl) (by kernel_rfl) (by rfl) hHeld (fun _ _ _ h => h) ?_ ?_
 rotate_left
 ·intro w' hSw; (try dsimp only at hSw); go_simp <;> with_reducible rfl
 simp only [Act.put, List.setIfInBounds_toArray, List.set_cons_zero, List.set_cons_succ]
 have hNew : (fun w' => w'.cell? ⟨D, 1, none⟩ = some pv) (w2.alloc (.cells #[.int .i64 0, .string (strB nm), .string ⟨#[]⟩, .slice Ad data.length cd] 70)) := by exact (cell_of_row _ D 1 _ _ _ ((Below.heap_alloc w2 _ D (hDat2.lt).2).trans hbD2))
 refine runT 9 (some 21) (v := Value.slice (some ⟨w2.heap.size, 0, none⟩) 1 1) (w' := w2.alloc (.cells #[.int .i64 0, .string (strB nm), .string ⟨#[]⟩, .slice Ad data.length cd] 70)) rfl rfl (by kernel_rfl) (by rfl) ?_ (fun _ => hNew) ?_
 ·go_simp <;> with_reducible rfl
 clear hHeld
 have hHeld := hNew
 clear hNew
 simp only [Act.put, List.setIfInBounds_toArray, List.set_cons_zero, List.set_cons_succ]
 refine opT 10 rfl (by kernel_rfl) (by rfl) ?_
 refine wp_append_app _ (.tmp 16) (.tmp 21) 45 rfl B 70 i0 _ 4 64 Try.underlying45 HI.out HZ0.out HZ1.out HZ2.out rfl (by omega) pv ps.length (opCs ps) rfl (.inl hown3) (· = w2.heap.size) _ 1 (opC (⟨0, nm, [], data⟩, .slice Ad data.length cd)) rfl hnew (opC_one _ rfl) (by unfold maxLen; omega) (by omega) (by simp; omega) ?_
 intro v' w3 _ hO3 hg3 hb3 hv3
 have hO3 := hO3 (.inl (by omega))
 have hD3 : w3.heap[D]? = some (.cells #[.map (some M), pv] 47 (0, 0)) := (hg3.block D (by simp; have := hDat2.lt.2; omega) (own_not_disk hown3 hbD3)).trans hbD3
 have kf : w3.frozen? ⟨D, 1, none⟩ = false := frozen_of_row w3 D 1 _ _ hD3
 have kc : w3.cell? ⟨D, 1, none⟩ = some pv := cell_of_row w3 D 1 _ _ _ hD3
 obtain ⟨A3, c3, rfl, z1, z2, z3⟩ := Rd.open_ (Rd.of_own hO3)
 clear z3 z2
 refine keepAnd ?_ (fun hNew => ?_)
 ·intro _; exact cell_of_row _ D 1 _ _ _ hD3
 have hNew := hNew (by decide)
 clear hHeld
 have hHeld := hNew
 clear hNew
 simp only [Act.put, List.setIfInBounds_toArray, List.set_cons_zero, List.set_cons_succ]
 refine runT 11 (some 23) (v := ?_) (w' := _) rfl rfl (by kernel_rfl) (by rfl) ?_ (fun _ => hHeld) ?_
 rotate_left
 ·go_simp <;> with_reducible rfl
 simp only [Act.put, List.setIfInBounds_toArray, List.set_cons_zero, List.set_cons_succ]
 refine takeT 12 (some 24) (v := ?_) rfl rfl (by kernel_rfl) (by kernel_rfl) (by kernel_rfl) (by kernel_rfl) (by rfl) hHeld (fun _ _ _ h => h) ?_ ?_
 rotate_left
 ·intro w' hSw; (try dsimp only at hSw); go_simp <;> with_reducible rfl
 simp only [Act.put, List.setIfInBounds_toArray, List.set_cons_zero, List.set_cons_succ]
 refine skipRunT 13 none (w' := w3.setCell ⟨D, 1, none⟩ (.slice A3 (ps.length + 1) c3)) rfl rfl (by kernel_rfl) (by rfl) ?_ (fun h => absurd rfl h) ?_
 ·go_simp <;> with_reducible rfl
 clear hHeld
 simp only [Act.put]
 refine doneT (by kernel_rfl) ?_ _
 refine NoPanic.normal ?_
 go_wp2_with fail
 go_ret
 refine ⟨rfl, ?_⟩
 have hb3' : Below w.heap.size w (w2.alloc (.cells #[.int .i64 0, .string (strB nm), .string ⟨#[]⟩, .slice Ad data.length cd] 70)) := hbw2.trans ((Below.of_alloc _).mono hbw2.size)
 exact push_done (o := ⟨0, nm, [], data⟩) (dv := .slice Ad data.length cd) hb3' hB hbD3 hBD hBM (hM.chg (Chg.of_below hb3' (fun _ => False)) (fun h => h)) hn (hG.below hB hb3') HPS.out (hO.chg hB (Chg.of_below hb3' (fun _ => False)) (fun _ _ h => h)) hown ((DatB.of_own hOd (fun _ => by have := hb1.size; simp; omega)).alloc hBs2 _) hZs (by simp) hnl (by simp [maxLen]) hO3 hg3 hv3
set_option maxRecDepth 100000 in
set_option maxHeartbeats 2000000 in
theorem dremove_no [Inhabited Nb] (B Z D : Nat) (P : Option Nat) (fm : FM) (os : List DOp) (nm : List UInt8) (w : World) (hB : B ≤ w.heap.size) (hD : DiskAt B Z w D P fm os) (hk : nm.length ≤ maxLen) (hZ : Z ≤ 1099511627776) (hx : (viewF fm os nm).isSome = false) (Z' : Nat) (hZ' : Z ≤ Z') :
  Calls Try.prog 18 #[.pointer (some ⟨D, 0, none⟩), .string (strB nm)] w (DOut B Z' D P fm os 11 w) := by
 have CX := Lib.hid (dexists_any B Z D fm os nm w hB hD.rd hZ hk)
 have HX := Lib.hid hx
 clear hx
 go_enter Try.func18, Try.ntmps18
 go_wp2_with fail
 (with_reducible refine CX.out.mono ?_)
 rintro e w1 ⟨rfl, hb1⟩
 rw [HX.out]
 go_wp2_with fail
 go_ret
 exact ⟨rfl, DPush.same hD hB hb1 Z' hZ'⟩
set_option maxRecDepth 100000 in
set_option maxHeartbeats 2000000 in
theorem dremove_ok [Inhabited Nb] (B Z D : Nat) (P : Option Nat) (fm : FM) (os : List DOp) (nm : List UInt8) (w : World) (hB : B ≤ w.heap.size) (hD : DiskAt B Z w D P fm os) (hk : nm.length ≤ maxLen) (hZ : Z ≤ 1099511627776) (hx : (viewF fm os nm).isSome = true) :
  Calls Try.prog 18 #[.pointer (some ⟨D, 0, none⟩), .string (strB nm)] w (DOut B (Z + 1) D P fm (os ++ [⟨1, nm, [], []⟩]) 0 w) := by
 have CX := Lib.hid (dexists_any B Z D fm os nm w hB hD.rd hZ hk)
 have HX := Lib.hid hx
 clear hx
 have hDat := hD
 obtain ⟨M, n, g, pv, hb, hBD, hBM, hM, hn, hG, ⟨ps, hps, hown, hO⟩, hZs, rfl⟩ := hD
 have hpl : ps.length ≤ Z := by have := congrArg List.length hps; rw [List.length_map] at this; omega
 have HB := Lib.hid hb
 have HPS := Lib.hid hps
 have hDl : D < w.heap.size := (Array.getElem?_eq_some_iff.1 hb).1
 obtain ⟨i0, hi, hz0, hz1, hz2⟩ := info_parts infoO
 have HI := Lib.hid hi
 have HZ0 := Lib.hid hz0
 have HZ1 := Lib.hid hz1
 have HZ2 := Lib.hid hz2
 clear hi hz0 hz1 hz2 hb hps
 go_enter Try.func18, Try.ntmps18
 go_wp2_with fail
 (with_reducible refine CX.out.mono ?_)
 rintro e w1 ⟨rfl, hb1⟩
 rw [HX.out]
 obtain ⟨w2, rfl⟩ : ∃ w2, w2 = w1 := ⟨_, rfl⟩
 have hbw2 := hb1
 have hbD : w2.heap[D]? = some (.cells #[.map (some M), pv] 47 (0, 0)) := (hbw2.block D hDl).trans HB.out
 have k1 : w2.cell? ⟨D, 1, none⟩ = some pv := cell_of_row w2 D 1 _ _ _ hbD
 have hDat2 := hDat.below hB hbw2
 have hbD3 : (w2.alloc (.cells #[.int .i64 1, .string (strB nm), .string (strB []), .slice none 0 0] 70)).heap[D]? = some (.cells #[.map (some M), pv] 47 (0, 0)) := (Below.heap_alloc w2 _ D (hDat2.lt).2).trans hbD
 have hown2 : w2.ownsRow B 70 4 pv ps.length (opCs ps) := own_below hown hbw2
 have hown3 : (w2.alloc (.cells #[.int .i64 1, .string (strB nm), .string (strB []), .slice none 0 0] 70)).ownsRow B 70 4 pv ps.length (opCs ps) := own_alloc hown2 _
 have hnew : Rd (w2.alloc (.cells #[.int .i64 1, .string (strB nm), .string (strB []), .slice none 0 0] 70)) (· = w2.heap.size) 4 (.slice (some ⟨w2.heap.size, 0, none⟩) 1 1) 1 (opC (⟨1, nm, [], []⟩, .slice none 0 0)) := Rd.new w2 (opC (⟨1, nm, [], []⟩, .slice none 0 0)) 70 4 1 rfl (by unfold maxLen; omega)
 have hBs2 : B ≤ w2.heap.size := by have := hbw2.size; omega
 have HBD := Lib.hid hbD3
 have HD3 : Hid (∀ w3 : World, (w2.alloc (.cells #[.int .i64 1, .string (strB nm), .string (strB []), .slice none 0 0] 70)).grownBy w3 pv.ownBlock → w3.heap[D]? = some (.cells #[.map (some M), pv] 47 (0, 0))) := Lib.hid fun w3 hg3 => (hg3.block D (by simp; have := hDat2.lt.2; omega) (own_not_disk hown3 HBD.out)).trans HBD.out
 clear hbD3 hbD
 have HEM : strB [] = ByteArray.mk #[] := rfl
 simp only [HEM] at hown3 hnew HD3 HBD
 clear HEM
 go_wp2_with (at_builtin; refine wpList_append_app _ rfl (.tmp 15) (.tmp 18) 45 rfl B 70 i0 _ 4 64 Try.underlying45 HI.out HZ0.out HZ1.out HZ2.out rfl (by omega) pv ps.length (opCs ps) rfl (.inl hown3) (· = w2.heap.size) _ 1 (opC (⟨1, nm, [], []⟩, .slice none 0 0)) rfl hnew (opC_one _ rfl) (by unfold maxLen; omega) (by omega) (by simp; omega) ?_; intro v' w3 _ hO3 hg3 hb3 hv3; have hO3 := hO3 (.inl (by omega)); obtain ⟨A3, c3, rfl, z1, z2, z3⟩ := Rd.open_ (Rd.of_own hO3); clear z3 z2; have hD3 := HD3.out w3 hg3; have kf : w3.frozen? ⟨D, 1, none⟩ = false := frozen_of_row w3 D 1 _ _ hD3; have kc : w3.cell? ⟨D, 1, none⟩ = some pv := cell_of_row w3 D 1 _ _ _ hD3; clear hD3)
 go_ret
 refine ⟨rfl, ?_⟩
 have hb3' : Below w.heap.size w (w2.alloc (.cells #[.int .i64 1, .string (strB nm), .string (strB []), .slice none 0 0] 70)) := hbw2.trans ((Below.of_alloc _).mono hbw2.size)
 exact push_done (o := ⟨1, nm, [], []⟩) (dv := .slice none 0 0) hb3' hB HBD.out hBD hBM (hM.chg (Chg.of_below hb3' (fun _ => False)) (fun h => h)) hn (hG.below hB hb3') HPS.out (hO.chg hB (Chg.of_below hb3' (fun _ => False)) (fun _ _ h => h)) hown (DatB.nil _ _) hZs (by simp) hk (by simp [maxLen]) hO3 hg3 hv3
set_option maxRecDepth 100000 in
set_option maxHeartbeats 2000000 in
theorem drename_no [Inhabited Nb] (B Z D : Nat) (P : Option Nat) (fm : FM) (os : List DOp) (nm to : List UInt8) (w : World) (hB : B ≤ w.heap.size) (hD : DiskAt B Z w D P fm os) (hk : nm.length ≤ maxLen) (hZ : Z ≤ 1099511627776) (hx : (viewF fm os nm).isSome = false) (Z' : Nat) (hZ' : Z ≤ Z') :
  Calls Try.prog 19 #[.pointer (some ⟨D, 0, none⟩), .string (strB nm), .string (strB to)] w (DOut B Z' D P fm os 11 w) := by
 have CX := Lib.hid (dexists_any B Z D fm os nm w hB hD.rd hZ hk)
 have HX := Lib.hid hx
 clear hx
 go_enter Try.func19, Try.ntmps19
 go_wp2_with fail
 (with_reducible refine CX.out.mono ?_)
 rintro e w1 ⟨rfl, hb1⟩
 rw [HX.out]
 go_wp2_with fail
 go_ret
 exact ⟨rfl, DPush.same hD hB hb1 Z' hZ'⟩
set_option maxRecDepth 100000 in
set_option maxHeartbeats 2000000 in
theorem drename_ok [Inhabited Nb] (B Z D : Nat) (P : Option Nat) (fm : FM) (os : List DOp) (nm to : List UInt8) (w : World) (hB : B ≤ w.heap.size) (hD : DiskAt B Z w D P fm os) (hk : nm.length ≤ maxLen) (hZ : Z ≤ 1099511627776) (hx : (viewF fm os nm).isSome = true) (hw : wordF to = true) :
  Calls Try.prog 19 #[.pointer (some ⟨D, 0, none⟩), .string (strB nm), .string (strB to)] w (DOut B (Z + 1) D P fm (os ++ [⟨2, nm, to, []⟩]) 0 w) := by
 have CX := Lib.hid (dexists_any B Z D fm os nm w hB hD.rd hZ hk)
 have HX := Lib.hid hx
 clear hx
 have HW := Lib.hid hw
 have htl : to.length ≤ maxLen := by
  unfold wordF at hw; simp only [Bool.and_eq_true, decide_eq_true_eq] at hw; unfold maxLen; omega
 clear hw
 have hDat := hD
 obtain ⟨M, n, g, pv, hb, hBD, hBM, hM, hn, hG, ⟨ps, hps, hown, hO⟩, hZs, rfl⟩ := hD
 have hpl : ps.length ≤ Z := by have := congrArg List.length hps; rw [List.length_map] at this; omega
 have HB := Lib.hid hb
 have HPS := Lib.hid hps
 have hDl : D < w.heap.size := (Array.getElem?_eq_some_iff.1 hb).1
 obtain ⟨i0, hi, hz0, hz1, hz2⟩ := info_parts infoO
 have HI := Lib.hid hi
 have HZ0 := Lib.hid hz0
 have HZ1 := Lib.hid hz1
 have HZ2 := Lib.hid hz2
 clear hi hz0 hz1 hz2 hb hps
 go_enter Try.func19, Try.ntmps19
 go_wp2_with fail
 (with_reducible refine CX.out.mono ?_)
 rintro e w1 ⟨rfl, hb1⟩
 rw [HX.out]
 go_wp2_with fail
 (with_reducible refine (dword_any to w1).mono ?_)
 rintro e w2 ⟨rfl, hb2⟩
 rw [HW.out]
 have hbw2 : Below w.heap.size w w2 := hb1.trans (hb2.mono hb1.size)
 have hbD : w2.heap[D]? = some (.cells #[.map (some M), pv] 47 (0, 0)) := (hbw2.block D hDl).trans HB.out
 have k1 : w2.cell? ⟨D, 1, none⟩ = some pv := cell_of_row w2 D 1 _ _ _ hbD
 have hDat2 := hDat.below hB hbw2
 have hbD3 : (w2.alloc (.cells #[.int .i64 2, .string (strB nm), .string (strB to), .slice none 0 0] 70)).heap[D]? = some (.cells #[.map (some M), pv] 47 (0, 0)) := (Below.heap_alloc w2 _ D (hDat2.lt).2).trans hbD
 have hown2 : w2.ownsRow B 70 4 pv ps.length (opCs ps) := own_below hown hbw2
 have hown3 : (w2.alloc (.cells #[.int .i64 2, .string (strB nm), .string (strB to), .slice none 0 0] 70)).ownsRow B 70 4 pv ps.length (opCs ps) := own_alloc hown2 _
 have hnew : Rd (w2.alloc (.cells #[.int .i64 2, .string (strB nm), .string (strB to), .slice none 0 0] 70)) (· = w2.heap.size) 4 (.slice (some ⟨w2.heap.size, 0, none⟩) 1 1) 1 (opC (⟨2, nm, to, []⟩, .slice none 0 0)) := Rd.new w2 (opC (⟨2, nm, to, []⟩, .slice none 0 0)) 70 4 1 rfl (by unfold maxLen; omega)
 have hBs2 : B ≤ w2.heap.size := by have := hbw2.size; omega
 have HBD := Lib.hid hbD3
 have HD3 : Hid (∀ w3 : World, (w2.alloc (.cells #[.int .i64 2, .string (strB nm), .string (strB to), .slice none 0 0] 70)).grownBy w3 pv.ownBlock → w3.heap[D]? = some (.cells #[.map (some M), pv] 47 (0, 0))) := Lib.hid fun w3 hg3 => (hg3.block D (by simp; have := hDat2.lt.2; omega) (own_not_disk hown3 HBD.out)).trans HBD.out
 clear hbD3 hbD
 go_wp2_with (at_builtin; refine wpList_append_app _ rfl (.tmp 20) (.tmp 24) 45 rfl B 70 i0 _ 4 64 Try.underlying45 HI.out HZ0.out HZ1.out HZ2.out rfl (by omega) pv ps.length (opCs ps) rfl (.inl hown3) (· = w2.heap.size) _ 1 (opC (⟨2, nm, to, []⟩, .slice none 0 0)) rfl hnew (opC_one _ rfl) (by unfold maxLen; omega) (by omega) (by simp; omega) ?_; intro v' w3 _ hO3 hg3 hb3 hv3; have hO3 := hO3 (.inl (by omega)); obtain ⟨A3, c3, rfl, z1, z2, z3⟩ := Rd.open_ (Rd.of_own hO3); clear z3 z2; have hD3 := HD3.out w3 hg3; have kf : w3.frozen? ⟨D, 1, none⟩ = false := frozen_of_row w3 D 1 _ _ hD3; have kc : w3.cell? ⟨D, 1, none⟩ = some pv := cell_of_row w3 D 1 _ _ _ hD3; clear hD3)
 go_ret
 refine ⟨rfl, ?_⟩
 have hb3' : Below w.heap.size w (w2.alloc (.cells #[.int .i64 2, .string (strB nm), .string (strB to), .slice none 0 0] 70)) := hbw2.trans ((Below.of_alloc _).mono hbw2.size)
 exact push_done (o := ⟨2, nm, to, []⟩) (dv := .slice none 0 0) hb3' hB HBD.out hBD hBM (hM.chg (Chg.of_below hb3' (fun _ => False)) (fun h => h)) hn (hG.below hB hb3') HPS.out (hO.chg hB (Chg.of_below hb3' (fun _ => False)) (fun _ _ h => h)) hown (DatB.nil _ _) hZs (by simp) hk htl hO3 hg3 hv3
set_option maxRecDepth 100000 in
set_option maxHeartbeats 2000000 in
theorem drename_bad [Inhabited Nb] (B Z D : Nat) (P : Option Nat) (fm : FM) (os : List DOp) (nm to : List UInt8) (w : World) (hB : B ≤ w.heap.size) (hD : DiskAt B Z w D P fm os) (hk : nm.length ≤ maxLen) (hZ : Z ≤ 1099511627776) (hx : (viewF fm os nm).isSome = true) (hw : wordF to = false) (Z' : Nat) (hZ' : Z ≤ Z') :
  Calls Try.prog 19 #[.pointer (some ⟨D, 0, none⟩), .string (strB nm), .string (strB to)] w (DOut B Z' D P fm os 8 w) := by
 have CX := Lib.hid (dexists_any B Z D fm os nm w hB hD.rd hZ hk)
 have HX := Lib.hid hx
 have HW := Lib.hid hw
 clear hx hw
 go_enter Try.func19, Try.ntmps19
 go_wp2_with fail
 (with_reducible refine CX.out.mono ?_)
 rintro e w1 ⟨rfl, hb1⟩
 rw [HX.out]
 go_wp2_with fail
 (with_reducible refine (dword_any to w1).mono ?_)
 rintro e w2 ⟨rfl, hb2⟩
 rw [HW.out]
 go_wp2_with fail
 go_ret
 exact ⟨rfl, DPush.same hD hB (hb1.trans (hb2.mono hb1.size)) Z' hZ'⟩
end
section
set_option maxRecDepth 100000
open Go.RowKit Go.Lib Go.IntWalk
/-- what survives of an operation that is torn -/
def tornOp (o : DOp) (torn : Int) : List DOp := if o.kind = 0 ∧ 0 < torn then [⟨0, o.name, o.to, o.data.take torn.toNat⟩] else []
/-- the operations that a crash carries out -/
def crashOps (os : List DOp) (keep torn : Int) : List DOp :=
 os.take keep.toNat ++ (match os[keep.toNat]? with | some o => tornOp o torn | none => [])
theorem flat_take {α β : Type} (n : Nat) (f : α → List β) (hf : ∀ x, (f x).length = n) (ps : List α) (k : Nat) (hk : k ≤ ps.length) : (ps.flatMap f).take (k * n) = (ps.take k).flatMap f := by
 have h : ps.flatMap f = (ps.take k).flatMap f ++ (ps.drop k).flatMap f := by rw [← List.flatMap_append, List.take_append_drop]
 rw [h, List.take_left' (by rw [flat_len n f hf, List.length_take]; congr 1; omega)]
theorem Rd.pre {w : World} {F : Nat → Prop} {size n k c : Nat} {A : Option Addr} {cs : List Value} (h : Rd w F size (.slice A n c) n cs) (hk : k ≤ n) : Rd w F size (.slice A k c) k (cs.take (k * size)) := by
 obtain ⟨h1, A', c', hv, h2, h3, h4, h5⟩ := h
 injection hv with e1 e2 e3
 subst e1; subst e3
 refine ⟨?_, A, c, rfl, by omega, h3, h4, fun hp => ?_⟩
 ·rw [List.length_take, h1]
  have : k * size ≤ n * size := Nat.mul_le_mul_right _ hk
  omega
 ·obtain ⟨ad, e, hF, hc⟩ := h5 (by omega)
  refine ⟨ad, e, hF, fun j u hu => ?_⟩
  rw [List.getElem?_take] at hu
  split at hu
  ·exact hc j u hu
  ·cases hu
theorem Rd.preWhole {w : World} {F : Nat → Prop} {size n k c : Nat} {A : Option Addr} {cs : List Value} (h : Rd w F size (.slice A n c) n cs) (hk : k ≤ n) : Rd w F size (.slice A k k) k (cs.take (k * size)) := by
 have := h.pre hk
 obtain ⟨h1, A', c', hv, h2, h3, h4, h5⟩ := this
 injection hv with e1 e2 e3
 subst e1; subst e3
 exact ⟨h1, A, k, rfl, Nat.le_refl _, by omega, fun h => by have := h4 h; omega, h5⟩
theorem DatB.take {_ : Inhabited Nb} {B : Nat} {w : World} {A : Option Addr} {c : Nat} {l : List UInt8} (h : DatB B w (.slice A l.length c) l) (m : Nat) (hm : m ≤ l.length) : DatB B w (.slice A m c) (l.take m) := by
 have := Rd.pre h hm
 unfold DatB RdB
 rw [List.length_take, Nat.min_eq_left hm]
 rw [Nat.mul_one] at this
 have e : bv (l.take m) = (bv l).take m := by simp [bv]
 rw [e]
 exact this
theorem dsum_append (a b : List DOp) : dsum (a ++ b) = dsum a + dsum b := by simp [dsum]
theorem dsum_take_le (os : List DOp) (k : Nat) : dsum (os.take k) + dsum (os.drop k) = dsum os := by rw [← dsum_append, List.take_append_drop]
theorem DSz.sub {Z : Nat} {fm : FM} {os os' : List DOp} (h : DSz Z fm os) (hs : dsum os' ≤ dsum os) (ho : ∀ o ∈ os', o.kind ≤ 2 ∧ o.name.length ≤ maxLen ∧ o.to.length ≤ maxLen) : DSz Z fm os' :=
 ⟨fun k l hl => by have := h.file k l hl; omega, by have := h.all; omega, ho⟩
theorem own_base {w : World} {b b' : Nat} {e : TypeId} {size n : Nat} {v : Value} {cs : List Value} (h : w.ownsRow b e size v n cs) (hb : b' ≤ b) : w.ownsRow b' e size v n cs := by
 refine ⟨h.1, ?_⟩
 rcases h.2 with ⟨rfl, h0⟩ | ⟨g, cap, cur, rfl, hB, hg, hnc, hcm, hcs, htake⟩
 ·exact .inl ⟨rfl, h0⟩
 ·exact .inr ⟨g, cap, cur, rfl, by omega, hg, hnc, hcm, hcs, htake⟩
theorem World.size_drew' (w : World) : w.drew.heap.size = w.heap.size := rfl
theorem crash_none {os : List DOp} {keep torn : Int} {k : Nat} (hk : keep.toNat = k) (h : os[k]? = none) : crashOps os keep torn = os.take k := by
 unfold crashOps; rw [hk, h]; simp
theorem crash_some {os : List DOp} {keep torn : Int} {k : Nat} {o : DOp} (hk : keep.toNat = k) (h : os[k]? = some o) : crashOps os keep torn = os.take k ++ tornOp o torn := by
 unfold crashOps; rw [hk, h]
theorem dsum_torn (o : DOp) (torn : Int) : dsum (tornOp o torn) ≤ o.data.length ∧ (tornOp o torn).length ≤ 1 := by
 unfold tornOp
 split
 ·simp [dsum]; omega
 ·simp [dsum]
theorem DSz.crash {Z : Nat} {fm : FM} {os : List DOp} (h : DSz Z fm os) (keep torn : Int) : DSz Z fm (crashOps os keep torn) ∧ (crashOps os keep torn).length ≤ os.length := by
 cases hk : os[keep.toNat]? with
 | none =>
  rw [crash_none rfl hk]
  have := dsum_take_le os keep.toNat
  exact ⟨h.sub (by omega) fun o ho => h.op o (List.mem_of_mem_take ho), by rw [List.length_take]; omega⟩
 | some o =>
  rw [crash_some rfl hk]
  obtain ⟨hlt, e⟩ := List.getElem?_eq_some_iff.1 hk
  have h1 := dsum_take_le os keep.toNat
  have h2 := dsum_drop hk
  have h3 := dsum_torn o torn
  refine ⟨h.sub (by rw [dsum_append]; omega) fun x hx => ?_, by rw [List.length_append, List.length_take]; omega⟩
  rcases List.mem_append.1 hx with hx | hx
  ·exact h.op x (List.mem_of_mem_take hx)
  ·have ho := h.op o (List.mem_of_getElem? hk)
   unfold tornOp at hx
   split at hx
   ·rw [List.mem_singleton] at hx; subst hx; exact ⟨by simp, ho.2⟩
   ·cases hx
/-- other operations are set -/
theorem disk_set {_ : Inhabited Nb} {B Z D : Nat} {fm : FM} {os' : List DOp} {M n : Nat} {g : List UInt8 → Option Value} {pv pv' : Value} {w : World} (hB : B ≤ w.heap.size)
  (hD : w.heap[D]? = some (.cells #[.map (some M), pv] 47 (0, 0))) (hBD : B ≤ D) (hBM : B ≤ M) (hM : MapIs w M n g) (hn : n + os'.length ≤ Z) (hG : GRd B w g fm) (hP : PRd B w pv' os') (hZ : DSz Z fm os') :
  DiskRd B Z (w.setCell ⟨D, 1, none⟩ pv') D fm os' := by
 have hC : Chg (· = D) w (w.setCell ⟨D, 1, none⟩ pv') := Chg.setCell (S := (· = D)) (Chg.refl _ w) (.inl rfl) _
 have hbr : ∀ b, BR B w b → ¬ b = D := fun b hb => BR_not_cells hBD hD (by decide) hb
 refine ⟨M, n, g, pv', ?_, hBD, hBM, hM.chg hC ?_, hn, hG.chg hB hC hbr, ?_, hZ⟩
 ·have := heap_setCell_same w D 1 _ _ pv' hD
  simpa using this
 ·rintro rfl
  obtain ⟨es, clock, hm⟩ := hM.obj
  rw [hD] at hm; cases hm
 ·obtain ⟨ps, h1, h2, h3⟩ := hP
  have hk : ∀ b, OR w b → (w.setCell ⟨D, 1, none⟩ pv').heap[b]? = w.heap[b]? := by
   rintro b ⟨cs, hb⟩
   refine hC.block b (Array.getElem?_eq_some_iff.1 hb).1 ?_
   rintro rfl
   rw [hD] at hb
   simp only [Option.some.injEq, Obj.cells.injEq] at hb
   exact absurd hb.2.1 (by decide)
  exact ⟨ps, h1, (Rd.keep h2 hk).wide fun b hb' => by obtain ⟨cs, e⟩ := hb'; exact ⟨cs, (hk b ⟨cs, e⟩).trans e⟩, h3.chg hB hC hbr⟩
theorem DSync.after {_ : Inhabited Nb} {B Z D : Nat} {fm : FM} {w0 w1 : World} {e : Ending} {w : World} (h : DSync B Z D fm w1 e w) (hc : Chg (· = D) w0 w1) : DSync B Z D fm w0 e w := by
 obtain ⟨u, h1, h2, h3⟩ := h
 exact ⟨u, h1, h2, hc.trans h3 (fun _ _ h => h)⟩
set_option maxRecDepth 100000 in
set_option maxHeartbeats 4000000 in
theorem dcrash_any [Inhabited Nb] (B Z D : Nat) (P : Option Nat) (fm : FM) (os : List DOp) (keep torn : Int) (w : World) (hB : B ≤ w.heap.size) (hD : DiskAt B Z w D P fm os) (hZ : Z ≤ 1099511627776) :
  Calls Try.prog 24 #[.pointer (some ⟨D, 0, none⟩), .int .i64 keep, .int .i64 torn] w (DSync B Z D (viewF fm (crashOps os keep torn)) w) := by
 obtain ⟨M, n, g, pv, hb, hBD, hBM, hM, hn, hG, ⟨ps, hps, hP, hO⟩, hZs⟩ := hD.rd
 clear hD
 have hDl : D < w.heap.size := (Array.getElem?_eq_some_iff.1 hb).1
 have hc1 : w.cell? ⟨D, 1, none⟩ = some pv := cell_of_row w D 1 _ _ _ hb
 have hf1 : w.frozen? ⟨D, 1, none⟩ = false := frozen_of_row w D 1 _ _ hb
 obtain ⟨A, c, rfl, h1, h2, h3⟩ := Rd.open_ hP
 have hl : os.length = ps.length := by rw [← hps, List.length_map]
 obtain ⟨k, hk⟩ : ∃ k : Nat, k = min keep.toNat ps.length := ⟨_, rfl⟩
 have hkn : k ≤ ps.length := by omega
 obtain ⟨mk, hma⟩ : ∃ mk : Int, (if keep < 0 then 0 else keep) = mk := ⟨_, rfl⟩
 have hmb : (if (ps.length : Int) < mk then (ps.length : Int) else mk) = (k : Int) := by split at hma <;> split <;> omega
 have hpl : ps.length ≤ Z := by omega
 have hcr := hZs.crash keep torn
 have HCR := Lib.hid hcr
 have hC1 : Chg (· = D) w (w.setCell ⟨D, 1, none⟩ (.slice A k c)) := Chg.setCell (S := (· = D)) (Chg.refl _ w) (.inl rfl) _
 obtain ⟨i0, hi, hz0, hz1, hz2⟩ := info_parts infoO
 have hslo := run_slice_lo (P := Try.prog) (size := 4) Try.underlying45 hi hz1 A ps.length c k hkn
 have hshi := run_slice_hi (P := Try.prog) Try.underlying45 hi A ps.length c k (by omega)
 have hpre := hP.pre hkn
 have etk : (opCs ps).take (k * 4) = opCs (ps.take k) := flat_take 4 opC opC_len ps k hkn
 have eot : (ps.take k).map (·.1) = os.take k := by rw [← hps, List.map_take]
 have hltk : (ps.take k).length = k := by rw [List.length_take]; omega
 rw [etk] at hpre
 have hPk : PRd B w (.slice A k c) (os.take k) := ⟨ps.take k, eot, by rw [hltk]; exact hpre, fun p hp => hO p (List.mem_of_mem_take hp)⟩
 by_cases hlt : k < ps.length
 ·-- an operation is left
  have hmk : mk = (k : Int) := by split at hmb <;> omega
  subst hmk
  have hmc : ¬ (ps.length : Int) < (k : Int) := by omega
  clear hmb
  have hkk : keep.toNat = k := by omega
  have hpk : ps[k]? = some ps[k] := List.getElem?_eq_getElem hlt
  have hok : os[k]? = some ps[k].1 := by rw [← hps, List.getElem?_map, hpk]; rfl
  obtain ⟨b, off, rfl, ⟨cs0, hOb⟩, g0, g1, g2, g3⟩ := PRd.elem hP hpk
  have hdk : DatB B w ps[k].2 ps[k].1.data := hO _ (List.getElem_mem hlt)
  have hce := crash_some (torn := torn) hkk hok
  have hbD : ¬ b = D := by
   rintro rfl
   rw [hb] at hOb
   simp only [Option.some.injEq, Obj.cells.injEq] at hOb
   exact absurd hOb.2.1 (by decide)
  have hoo := hZs.op _ (List.mem_of_getElem? hok)
  have hcut : cutA (some (⟨b, off, none⟩ : Addr)) c k 4 = some ⟨b, off + k * 4, none⟩ := by
   unfold cutA Addr.add
   rw [if_neg (by omega)]
   simp only [Option.map_some, Option.some.injEq]
   split
   ·rename_i h0; rw [h0]; rfl
   ·rfl
  rw [hcut] at hslo
  have kept : ∀ o, (w.setCell ⟨D, 1, none⟩ (.slice (some ⟨b, off, none⟩) k c)).cell? ⟨b, o, none⟩ = w.cell? ⟨b, o, none⟩ := fun o => World.cell?_of_block (hC1.block b (Array.getElem?_eq_some_iff.1 hOb).1 hbD)
  have g0' := (kept _).trans g0
  have g1' := (kept _).trans g1
  have g2' := (kept _).trans g2
  have g3' := (kept _).trans g3
  have HPW := Lib.hid (hP.preWhole hkn)
  have HET := Lib.hid etk
  have HEO := Lib.hid eot
  have HLT := Lib.hid hltk
  have HBL := Lib.hid (Array.getElem?_eq_some_iff.1 hOb).1
  generalize ps[k] = p at *
  obtain ⟨⟨kd, nm, to, data⟩, dv⟩ := p
  simp only at g0 g1 g2 g3 g0' g1' g2' g3' hdk hce hoo
  have HCE := Lib.hid hce
  have HB := Lib.hid hb
  have HI := Lib.hid hi
  have HZ0 := Lib.hid hz0
  have HZ1 := Lib.hid hz1
  have HZ2 := Lib.hid hz2
  have HPK := Lib.hid hPk
  have HOB := Lib.hid hOb
  have HC1 := Lib.hid hC1
  have HK := Lib.hid hk
  have HG := Lib.hid hG
  have hr0 : (0 : Int) < ((ps.length - k : Nat) : Int) := by omega
  have hr1 : (0 : Nat) < ps.length - k := by omega
  clear hce hb hi hz0 hz1 hz2 hPk hOb hC1 hk hok hpk hps hl kept hcut h3 etk eot hltk hpre hcr
  unfold maxLen at h2
  by_cases hkd : kd = 0 ∧ 0 < torn
  ·obtain ⟨rfl, ht⟩ := hkd
   rw [show ((0 : Nat) : Int) = 0 from rfl] at g0 g0'
   obtain ⟨Ad, cd, rfl, q1, q2, q3⟩ := Rd.open_ hdk
   obtain ⟨m, hm⟩ : ∃ m : Nat, m = min torn.toNat data.length := ⟨_, rfl⟩
   have hmi : (if (data.length : Int) < torn then (data.length : Int) else torn) = (m : Int) := by split <;> omega
   obtain ⟨j0, hj, _, _, _⟩ := info_parts infoB
   have hsd := run_slice_hi (P := Try.prog) Try.underlying33 hj Ad data.length cd m (by omega)
   have hsw := run_slice_him (P := Try.prog) Try.underlying45 HI.out (some ⟨b, off, none⟩) k c k k (Nat.le_refl _) (by omega)
   have hml : m ≤ data.length := by omega
   have edt : data.take torn.toNat = data.take m := by
    rw [hm]
    rcases Nat.le_total torn.toNat data.length with h | h
    ·rw [Nat.min_eq_left h]
    ·rw [Nat.min_eq_right h, List.take_of_length_le h, List.take_length]
   have hcops : crashOps os keep torn = os.take k ++ [⟨0, nm, to, data.take m⟩] := by
    rw [HCE.out, tornOp, if_pos ⟨rfl, ht⟩, edt]
   have hdm : DatB B w (.slice Ad m cd) (data.take m) := DatB.take hdk m hml
   have HCO := Lib.hid hcops
   have HDM := Lib.hid hdm
   -- the worlds
   have hW1 : (w.setCell ⟨D, 1, none⟩ (.slice (some ⟨b, off, none⟩) k c)).heap[D]? = some (.cells #[.map (some M), .slice (some ⟨b, off, none⟩) k c] 47 (0, 0)) := by
    have := heap_setCell_same w D 1 _ _ (.slice (some ⟨b, off, none⟩) k c) HB.out
    simpa using this
   have hs1 : (w.setCell ⟨D, 1, none⟩ (.slice (some ⟨b, off, none⟩) k c)).heap.size = w.heap.size := by simp [World.setCell]
   have hCh2 : Chg (· = D) w (((w.setCell ⟨D, 1, none⟩ (.slice (some ⟨b, off, none⟩) k c)).alloc (.cells #[.int .i64 0, .string (strB nm), .string (strB to), .slice Ad m cd] 70))) := HC1.out.alloc _
   have hs2 : (((w.setCell ⟨D, 1, none⟩ (.slice (some ⟨b, off, none⟩) k c)).alloc (.cells #[.int .i64 0, .string (strB nm), .string (strB to), .slice Ad m cd] 70))).heap.size = w.heap.size + 1 := by simp [World.setCell]
   have hCh3 : Chg (· = D) w ((((w.setCell ⟨D, 1, none⟩ (.slice (some ⟨b, off, none⟩) k c)).alloc (.cells #[.int .i64 0, .string (strB nm), .string (strB to), .slice Ad m cd] 70))).drew.alloc (.cells #[.int .i64 0, .string (strB nm), .string (strB to), .slice Ad m cd] 70)) := (hCh2.drew).alloc _
   have hs3 : (((w.setCell ⟨D, 1, none⟩ (.slice (some ⟨b, off, none⟩) k c)).alloc (.cells #[.int .i64 0, .string (strB nm), .string (strB to), .slice Ad m cd] 70)).drew.alloc (.cells #[.int .i64 0, .string (strB nm), .string (strB to), .slice Ad m cd] 70)).heap.size = w.heap.size + 2 := by simp [World.setCell]
   have hD2 : (((w.setCell ⟨D, 1, none⟩ (.slice (some ⟨b, off, none⟩) k c)).alloc (.cells #[.int .i64 0, .string (strB nm), .string (strB to), .slice Ad m cd] 70)).drew.alloc (.cells #[.int .i64 0, .string (strB nm), .string (strB to), .slice Ad m cd] 70)).heap[D]? = some (.cells #[.map (some M), .slice (some ⟨b, off, none⟩) k c] 47 (0, 0)) :=
    (Below.heap_alloc _ _ D (by rw [World.size_drew', hs2]; omega)).trans ((Below.heap_alloc _ _ D (by rw [hs1]; exact hDl)).trans hW1)
   have hH2 : (((w.setCell ⟨D, 1, none⟩ (.slice (some ⟨b, off, none⟩) k c)).alloc (.cells #[.int .i64 0, .string (strB nm), .string (strB to), .slice Ad m cd] 70)).drew.alloc (.cells #[.int .i64 0, .string (strB nm), .string (strB to), .slice Ad m cd] 70)).heap[w.heap.size]? = some (.cells #[.int .i64 0, .string (strB nm), .string (strB to), .slice Ad m cd] 70 (0, 0)) := by
    refine (Below.heap_alloc _ _ w.heap.size (by rw [World.size_drew', hs2]; omega)).trans ?_
    have := heap_alloc_new (w.setCell ⟨D, 1, none⟩ (.slice (some ⟨b, off, none⟩) k c)) (.cells #[.int .i64 0, .string (strB nm), .string (strB to), .slice Ad m cd] 70)
    rw [hs1] at this
    exact this
   have HS2 : Hid (∀ w3 : World, Below (w.heap.size + 1) (((w.setCell ⟨D, 1, none⟩ (.slice (some ⟨b, off, none⟩) k c)).alloc (.cells #[.int .i64 0, .string (strB nm), .string (strB to), .slice Ad m cd] 70)).drew.alloc (.cells #[.int .i64 0, .string (strB nm), .string (strB to), .slice Ad m cd] 70)) w3 → (fun w' => w'.cell? ⟨D, 1, none⟩ = some (.slice (some ⟨b, off, none⟩) k c) ∧ w'.cell? ⟨w.heap.size, 0, none⟩ = some (.int .i64 0) ∧ w'.cell? ⟨w.heap.size, 1, none⟩ = some (.string (strB nm)) ∧ w'.cell? ⟨w.heap.size, 2, none⟩ = some (.string (strB to)) ∧ w'.cell? ⟨w.heap.size, 3, none⟩ = some (.slice Ad m cd)) w3) := by
    refine Lib.hid fun w3 hb3 => ?_
    have e1 := (hb3.block D (by omega)).trans hD2
    have e2 := (hb3.block w.heap.size (by omega)).trans hH2
    exact ⟨cell_of_row w3 D 1 _ _ _ e1, cell_of_row w3 _ 0 _ _ _ e2, cell_of_row w3 _ 1 _ _ _ e2, cell_of_row w3 _ 2 _ _ _ e2, cell_of_row w3 _ 3 _ _ _ e2⟩
   have HS1 : Hid ((fun w' => w'.cell? ⟨D, 1, none⟩ = some (.slice (some ⟨b, off, none⟩) k c) ∧ w'.cell? ⟨w.heap.size, 0, none⟩ = some (.int .i64 0) ∧ w'.cell? ⟨w.heap.size, 1, none⟩ = some (.string (strB nm)) ∧ w'.cell? ⟨w.heap.size, 2, none⟩ = some (.string (strB to)) ∧ w'.cell? ⟨w.heap.size, 3, none⟩ = some (.slice Ad m cd)) (((w.setCell ⟨D, 1, none⟩ (.slice (some ⟨b, off, none⟩) k c)).alloc (.cells #[.int .i64 0, .string (strB nm), .string (strB to), .slice Ad m cd] 70)).drew.alloc (.cells #[.int .i64 0, .string (strB nm), .string (strB to), .slice Ad m cd] 70))) := Lib.hid (HS2.out _ (Below.refl _ _))
   have HS0 : Hid ((fun w' => w'.cell? ⟨D, 1, none⟩ = some (.slice (some ⟨b, off, none⟩) k c) ∧ w'.cell? ⟨w.heap.size, 0, none⟩ = some (.int .i64 0) ∧ w'.cell? ⟨w.heap.size, 1, none⟩ = some (.string (strB nm)) ∧ w'.cell? ⟨w.heap.size, 2, none⟩ = some (.string (strB to)) ∧ w'.cell? ⟨w.heap.size, 3, none⟩ = some (.slice Ad m cd)) ((((w.setCell ⟨D, 1, none⟩ (.slice (some ⟨b, off, none⟩) k c)).alloc (.cells #[.int .i64 0, .string (strB nm), .string (strB to), .slice Ad m cd] 70))).drew)) := by
    refine Lib.hid ?_
    have e1 : ((((w.setCell ⟨D, 1, none⟩ (.slice (some ⟨b, off, none⟩) k c)).alloc (.cells #[.int .i64 0, .string (strB nm), .string (strB to), .slice Ad m cd] 70))).drew).heap[D]? = _ := (Below.heap_alloc (w.setCell ⟨D, 1, none⟩ (.slice (some ⟨b, off, none⟩) k c)) (.cells #[.int .i64 0, .string (strB nm), .string (strB to), .slice Ad m cd] 70) D (by rw [hs1]; exact hDl)).trans hW1
    have e2 : ((((w.setCell ⟨D, 1, none⟩ (.slice (some ⟨b, off, none⟩) k c)).alloc (.cells #[.int .i64 0, .string (strB nm), .string (strB to), .slice Ad m cd] 70))).drew).heap[w.heap.size]? = some (.cells #[.int .i64 0, .string (strB nm), .string (strB to), .slice Ad m cd] 70 (0, 0)) := by
     have := heap_alloc_new (w.setCell ⟨D, 1, none⟩ (.slice (some ⟨b, off, none⟩) k c)) (.cells #[.int .i64 0, .string (strB nm), .string (strB to), .slice Ad m cd] 70)
     rw [hs1] at this
     exact this
    exact ⟨cell_of_row _ D 1 _ _ _ e1, cell_of_row _ _ 0 _ _ _ e2, cell_of_row _ _ 1 _ _ _ e2, cell_of_row _ _ 2 _ _ _ e2, cell_of_row _ _ 3 _ _ _ e2⟩
   have HD3 : Hid (∀ w3 : World, Below (w.heap.size + 1) (((w.setCell ⟨D, 1, none⟩ (.slice (some ⟨b, off, none⟩) k c)).alloc (.cells #[.int .i64 0, .string (strB nm), .string (strB to), .slice Ad m cd] 70)).drew.alloc (.cells #[.int .i64 0, .string (strB nm), .string (strB to), .slice Ad m cd] 70)) w3 → w3.heap[D]? = some (.cells #[.map (some M), .slice (some ⟨b, off, none⟩) k c] 47 (0, 0))) :=
    Lib.hid fun w3 hb3 => (hb3.block D (by omega)).trans hD2
   have HCW : Hid (∀ w3 : World, Below (w.heap.size + 1) (((w.setCell ⟨D, 1, none⟩ (.slice (some ⟨b, off, none⟩) k c)).alloc (.cells #[.int .i64 0, .string (strB nm), .string (strB to), .slice Ad m cd] 70)).drew.alloc (.cells #[.int .i64 0, .string (strB nm), .string (strB to), .slice Ad m cd] 70)) w3 → Chg (· = D) w w3) :=
    Lib.hid fun w3 hb3 => ⟨hb3.os.trans hCh3.os, hb3.tape.trans hCh3.tape, hb3.output.trans hCh3.output, Nat.le_trans hCh3.size hb3.size, fun i hi hn => (hb3.block i (by omega)).trans (hCh3.block i hi hn)⟩
   have HA : Hid (Rd (((w.setCell ⟨D, 1, none⟩ (.slice (some ⟨b, off, none⟩) k c)).alloc (.cells #[.int .i64 0, .string (strB nm), .string (strB to), .slice Ad m cd] 70)).drew.alloc (.cells #[.int .i64 0, .string (strB nm), .string (strB to), .slice Ad m cd] 70)) (· < w.heap.size + 1) 4 (.slice (some ⟨b, off, none⟩) k k) k (opCs (ps.take k)) ∧ ∃ A, Value.slice (some (⟨b, off, none⟩ : Addr)) k k = .slice A k k) := by
    refine Lib.hid ⟨?_, _, rfl⟩
    have h0 := HPW.out
    rw [HET.out] at h0
    have hk0 : ∀ i, OR w i → (((w.setCell ⟨D, 1, none⟩ (.slice (some ⟨b, off, none⟩) k c)).alloc (.cells #[.int .i64 0, .string (strB nm), .string (strB to), .slice Ad m cd] 70)).drew.alloc (.cells #[.int .i64 0, .string (strB nm), .string (strB to), .slice Ad m cd] 70)).heap[i]? = w.heap[i]? := by
     rintro i ⟨cs, hi'⟩
     refine hCh3.block i (Array.getElem?_eq_some_iff.1 hi').1 ?_
     rintro rfl
     rw [HB.out] at hi'
     simp only [Option.some.injEq, Obj.cells.injEq] at hi'
     exact absurd hi'.2.1 (by decide)
    refine (Rd.keep h0 hk0).wide ?_
    rintro i ⟨cs, hi'⟩
    have := (Array.getElem?_eq_some_iff.1 hi').1
    omega
   have HN : Hid (Rd (((w.setCell ⟨D, 1, none⟩ (.slice (some ⟨b, off, none⟩) k c)).alloc (.cells #[.int .i64 0, .string (strB nm), .string (strB to), .slice Ad m cd] 70)).drew.alloc (.cells #[.int .i64 0, .string (strB nm), .string (strB to), .slice Ad m cd] 70)) (· = w.heap.size + 1) 4 (.slice (some ⟨w.heap.size + 1, 0, none⟩) 1 1) 1 (opC (⟨0, nm, to, data.take m⟩, .slice Ad m cd))) :=
    Lib.hid (Rd.new' ((((w.setCell ⟨D, 1, none⟩ (.slice (some ⟨b, off, none⟩) k c)).alloc (.cells #[.int .i64 0, .string (strB nm), .string (strB to), .slice Ad m cd] 70))).drew) (w.heap.size + 1) (by rw [World.size_drew', hs2]) (opC (⟨0, nm, to, data.take m⟩, .slice Ad m cd)) 70 4 1 rfl (by unfold maxLen; omega))
   have HFIN : Hid (∀ (w3 : World) (A3 : Option Addr) (c3 : Nat), Below (w.heap.size + 1) (((w.setCell ⟨D, 1, none⟩ (.slice (some ⟨b, off, none⟩) k c)).alloc (.cells #[.int .i64 0, .string (strB nm), .string (strB to), .slice Ad m cd] 70)).drew.alloc (.cells #[.int .i64 0, .string (strB nm), .string (strB to), .slice Ad m cd] 70)) w3 → w3.ownsRow (w.heap.size + 1) 70 4 (.slice A3 (k + 1) c3) (k + 1) (opCs (ps.take k) ++ opC (⟨0, nm, to, data.take m⟩, .slice Ad m cd)) →
     DiskRd B Z (w3.setCell ⟨D, 1, none⟩ (.slice A3 (k + 1) c3)) D fm (crashOps os keep torn) ∧ Chg (· = D) w (w3.setCell ⟨D, 1, none⟩ (.slice A3 (k + 1) c3)) ∧ B ≤ (w3.setCell ⟨D, 1, none⟩ (.slice A3 (k + 1) c3)).heap.size) := by
    refine Lib.hid fun w3 A3 c3 hb3 hO3 => ?_
    have hC := HCW.out w3 hb3
    have hB3 : B ≤ w3.heap.size := by have := hC.size; omega
    have hbr : ∀ b, BR B w b → ¬ b = D := fun b hb => BR_not_cells hBD HB.out (by decide) hb
    refine ⟨disk_set hB3 (HD3.out w3 hb3) hBD hBM (hM.chg hC ?_) ?_ (HG.out.chg hB hC hbr) ?_ HCR.out.1, ?_, by simpa [World.setCell] using hB3⟩
    ·rintro rfl
     obtain ⟨es, clock, hm'⟩ := hM.obj
     rw [HB.out] at hm'; cases hm'
    ·have := HCR.out.2; omega
    ·refine PRd.of_own (B := B) ⟨ps.take k ++ [(⟨0, nm, to, data.take m⟩, .slice Ad m cd)], ?_, ?_, ?_⟩
     ·rw [HCO.out, List.map_append, HEO.out]; rfl
     ·have e : opCs (ps.take k ++ [(⟨0, nm, to, data.take m⟩, .slice Ad m cd)]) = opCs (ps.take k) ++ opC (⟨0, nm, to, data.take m⟩, .slice Ad m cd) := by simp [opCs]
      rw [e, List.length_append, HLT.out]
      exact own_base hO3 (by omega)
     ·intro p hp
      rcases List.mem_append.1 hp with hp | hp
      ·exact (hO p (List.mem_of_mem_take hp)).chg hB hC hbr
      ·rw [List.mem_singleton] at hp; subst hp; exact HDM.out.chg hB hC hbr
    ·exact Chg.setCell (S := (· = D)) hC (.inl rfl) _
   clear hcops edt hm hdm hdk q3 hW1 hs1 hCh2 hs2 hCh3 hs3 hD2 hH2 hj HPW HET HEO HLT HCO HDM HG hO hP
   go_enter Try.func24, Try.ntmps24
   go_wp2_with fail
   refine wp_region_noPanic ?_
   refine beginT (S := (fun w' => w'.cell? ⟨D, 1, none⟩ = some (.slice (some ⟨b, off, none⟩) k c) ∧ w'.cell? ⟨w.heap.size, 0, none⟩ = some (.int .i64 0) ∧ w'.cell? ⟨w.heap.size, 1, none⟩ = some (.string (strB nm)) ∧ w'.cell? ⟨w.heap.size, 2, none⟩ = some (.string (strB to)) ∧ w'.cell? ⟨w.heap.size, 3, none⟩ = some (.slice Ad m cd))) 13 (by kernel_rfl) ?_ (fun hHeld => ?_)
   ·exact HS0.out
   refine takeT 0 (some 60) (v := ?_) rfl rfl (by kernel_rfl) (by kernel_rfl) (by kernel_rfl) (by kernel_rfl) (by rfl) hHeld (fun _ _ _ h => h) ?_ ?_
   rotate_left
   ·intro w' hSw; (try dsimp only at hSw); go_simp <;> with_reducible rfl
   simp only [Act.put, List.setIfInBounds_toArray, List.set_cons_zero, List.set_cons_succ]
   refine takeT 1 (some 61) (v := ?_) rfl rfl (by kernel_rfl) (by kernel_rfl) (by kernel_rfl) (by kernel_rfl) (by rfl) hHeld (fun _ _ _ h => h) ?_ ?_
   rotate_left
   ·intro w' hSw; (try dsimp only at hSw); go_simp <;> with_reducible rfl
   simp only [Act.put, List.setIfInBounds_toArray, List.set_cons_zero, List.set_cons_succ]
   refine takeT 2 (some 62) (v := ?_) rfl rfl (by kernel_rfl) (by kernel_rfl) (by kernel_rfl) (by kernel_rfl) (by rfl) hHeld (fun _ _ _ h => h) ?_ ?_
   rotate_left
   ·intro w' hSw; (try dsimp only at hSw); go_simp <;> with_reducible rfl
   simp only [Act.put, List.setIfInBounds_toArray, List.set_cons_zero, List.set_cons_succ]
   refine takeT 3 (some 63) (v := ?_) rfl rfl (by kernel_rfl) (by kernel_rfl) (by kernel_rfl) (by kernel_rfl) (by rfl) hHeld (fun _ _ _ h => h) ?_ ?_
   rotate_left
   ·intro w' hSw; (try dsimp only at hSw); go_simp <;> with_reducible rfl
   simp only [Act.put, List.setIfInBounds_toArray, List.set_cons_zero, List.set_cons_succ]
   refine takeT 4 (some 64) (v := ?_) rfl rfl (by kernel_rfl) (by kernel_rfl) (by kernel_rfl) (by kernel_rfl) (by rfl) hHeld (fun _ _ _ h => h) ?_ ?_
   rotate_left
   ·intro w' hSw; (try dsimp only at hSw); obtain ⟨s1, s2, s3, s4, s5⟩ := hSw; go_simp <;> with_reducible rfl
   simp only [Act.put, List.setIfInBounds_toArray, List.set_cons_zero, List.set_cons_succ]
   refine takeT 5 (some 65) (v := ?_) rfl rfl (by kernel_rfl) (by kernel_rfl) (by kernel_rfl) (by kernel_rfl) (by rfl) hHeld (fun _ _ _ h => h) ?_ ?_
   rotate_left
   ·intro w' hSw; (try dsimp only at hSw); go_simp <;> with_reducible rfl
   simp only [Act.put, List.setIfInBounds_toArray, List.set_cons_zero, List.set_cons_succ]
   refine takeT 6 (some 66) (v := ?_) rfl rfl (by kernel_rfl) (by kernel_rfl) (by kernel_rfl) (by kernel_rfl) (by rfl) hHeld (fun _ _ _ h => h) ?_ ?_
   rotate_left
   ·intro w' hSw; (try dsimp only at hSw); go_simp <;> with_reducible rfl
   simp only [Act.put, List.setIfInBounds_toArray, List.set_cons_zero, List.set_cons_succ]
   refine takeT 7 (some 67) (v := ?_) rfl rfl (by kernel_rfl) (by kernel_rfl) (by kernel_rfl) (by kernel_rfl) (by rfl) hHeld (fun _ _ _ h => h) ?_ ?_
   rotate_left
   ·intro w' hSw; (try dsimp only at hSw); go_simp <;> with_reducible rfl
   simp only [Act.put, List.setIfInBounds_toArray, List.set_cons_zero, List.set_cons_succ]
   refine takeT 8 (some 68) (v := ?_) rfl rfl (by kernel_rfl) (by kernel_rfl) (by kernel_rfl) (by kernel_rfl) (by rfl) hHeld (fun _ _ _ h => h) ?_ ?_
   rotate_left
   ·intro w' hSw; (try dsimp only at hSw); obtain ⟨s1, s2, s3, s4, s5⟩ := hSw; go_simp <;> with_reducible rfl
   simp only [Act.put, List.setIfInBounds_toArray, List.set_cons_zero, List.set_cons_succ]
   have hNew : (fun w' => w'.cell? ⟨D, 1, none⟩ = some (.slice (some ⟨b, off, none⟩) k c) ∧ w'.cell? ⟨w.heap.size, 0, none⟩ = some (.int .i64 0) ∧ w'.cell? ⟨w.heap.size, 1, none⟩ = some (.string (strB nm)) ∧ w'.cell? ⟨w.heap.size, 2, none⟩ = some (.string (strB to)) ∧ w'.cell? ⟨w.heap.size, 3, none⟩ = some (.slice Ad m cd)) ((((w.setCell ⟨D, 1, none⟩ (.slice (some ⟨b, off, none⟩) k c)).alloc (.cells #[.int .i64 0, .string (strB nm), .string (strB to), .slice Ad m cd] 70)).drew.alloc (.cells #[.int .i64 0, .string (strB nm), .string (strB to), .slice Ad m cd] 70))) := by exact HS1.out
   refine runT 9 (some 69) (v := Value.slice (some ⟨w.heap.size + 1, 0, none⟩) 1 1) (w' := (((w.setCell ⟨D, 1, none⟩ (.slice (some ⟨b, off, none⟩) k c)).alloc (.cells #[.int .i64 0, .string (strB nm), .string (strB to), .slice Ad m cd] 70)).drew.alloc (.cells #[.int .i64 0, .string (strB nm), .string (strB to), .slice Ad m cd] 70))) rfl rfl (by kernel_rfl) (by rfl) ?_ (fun _ => hNew) ?_
   ·go_simp <;> with_reducible rfl
   clear hHeld
   have hHeld := hNew
   clear hNew
   simp only [Act.put, List.setIfInBounds_toArray, List.set_cons_zero, List.set_cons_succ]
   refine opT 10 rfl (by kernel_rfl) (by rfl) ?_
   refine wp_append_app _ (.tmp 67) (.tmp 69) 45 rfl (w.heap.size + 1) 70 i0 _ 4 64 Try.underlying45 HI.out HZ0.out HZ1.out HZ2.out rfl (by omega) (.slice (some ⟨b, off, none⟩) k k) k (opCs (ps.take k)) rfl (.inr HA.out) (· = w.heap.size + 1) _ 1 (opC (⟨0, nm, to, data.take m⟩, .slice Ad m cd)) rfl HN.out (opC_one _ rfl) (by unfold maxLen; omega) (by omega) (by simp) ?_
   intro v' w3 _ hO3 hg3 hb3 hv3
   have hO3 := hO3 (.inl (by omega))
   have hD3 := HD3.out w3 hb3
   have kf : w3.frozen? ⟨D, 1, none⟩ = false := frozen_of_row w3 D 1 _ _ hD3
   have kc : w3.cell? ⟨D, 1, none⟩ = some (.slice (some ⟨b, off, none⟩) k c) := cell_of_row w3 D 1 _ _ _ hD3
   obtain ⟨A3, c3, rfl, z1, z2, z3⟩ := Rd.open_ (Rd.of_own hO3)
   clear z3 z2
   refine keepAnd ?_ (fun hNew => ?_)
   ·intro _; exact HS2.out w3 hb3
   have hNew := hNew (by decide)
   clear hHeld
   have hHeld := hNew
   clear hNew
   simp only [Act.put, List.setIfInBounds_toArray, List.set_cons_zero, List.set_cons_succ]
   refine runT 11 (some 71) (v := ?_) (w' := _) rfl rfl (by kernel_rfl) (by rfl) ?_ (fun _ => hHeld) ?_
   rotate_left
   ·go_simp <;> with_reducible rfl
   simp only [Act.put, List.setIfInBounds_toArray, List.set_cons_zero, List.set_cons_succ]
   refine takeT 12 (some 72) (v := ?_) rfl rfl (by kernel_rfl) (by kernel_rfl) (by kernel_rfl) (by kernel_rfl) (by rfl) hHeld (fun _ _ _ h => h) ?_ ?_
   rotate_left
   ·intro w' hSw; (try dsimp only at hSw); go_simp <;> with_reducible rfl
   simp only [Act.put, List.setIfInBounds_toArray, List.set_cons_zero, List.set_cons_succ]
   refine skipRunT 13 none (w' := w3.setCell ⟨D, 1, none⟩ (.slice A3 (k + 1) c3)) rfl rfl (by kernel_rfl) (by rfl) ?_ (fun h => absurd rfl h) ?_
   ·go_simp <;> with_reducible rfl
   clear hHeld
   simp only [Act.put]
   refine doneT (by kernel_rfl) ?_ _
   refine NoPanic.normal ?_
   have hfin := HFIN.out w3 A3 c3 hb3 hO3
   go_wp2_with fail
   (with_reducible refine (dsync_any B Z D fm (crashOps os keep torn) _ ?_ ?_ hZ).mono ?_)
   ·exact hfin.2.2
   ·exact hfin.1
   rintro e w4 hS
   obtain ⟨u, rfl, hS1, hS2⟩ := hS.after hfin.2.1
   go_wp2_with fail
   go_end0
   exact ⟨_, rfl, hS1, hS2⟩
  ·have hcops : crashOps os keep torn = os.take k := by
    rw [HCE.out, tornOp, if_neg hkd, List.append_nil]
   have hDR : DiskRd B Z (w.setCell ⟨D, 1, none⟩ (.slice (some ⟨b, off, none⟩) k c)) D fm (crashOps os keep torn) := by
    have hz := HCR.out
    rw [hcops] at hz ⊢
    exact disk_set hB HB.out hBD hBM hM (by rw [List.length_take]; omega) HG.out HPK.out hz.1
   generalize crashOps os keep torn = co at *
   have CS := Lib.hid (dsync_any B Z D fm co (w.setCell ⟨D, 1, none⟩ (.slice (some ⟨b, off, none⟩) k c)) (by simpa [World.setCell] using hB) hDR hZ)
   clear hcops hDR hP hdk hO g1 g2 g3 g1' g2' g3'
   by_cases hk0 : kd = 0
   ·subst hk0
    have ht : ¬ 0 < torn := fun h => hkd ⟨rfl, h⟩
    rw [show ((0 : Nat) : Int) = 0 from rfl] at g0'
    clear hkd g0
    go_enter Try.func24, Try.ntmps24
    go_wp2_with fail
    (with_reducible refine CS.out.mono ?_)
    rintro e w1 hS
    obtain ⟨u, rfl, hS1, hS2⟩ := hS.after HC1.out
    go_wp2_with fail
    go_end0
    exact ⟨_, rfl, hS1, hS2⟩
   ·have hk1 : ((kd : Int) == 0) = false := by simp; exact hk0
    have HK0 := Lib.hid hk0
    clear hkd g0 hk0
    go_enter Try.func24, Try.ntmps24
    go_wp2_with fail
    (with_reducible refine CS.out.mono ?_)
    rintro e w1 hS
    obtain ⟨u, rfl, hS1, hS2⟩ := hS.after HC1.out
    go_wp2_with fail
    go_end0
    exact ⟨_, rfl, hS1, hS2⟩
 ·-- all operations are kept
  have hke : k = ps.length := by omega
  have hon : os[keep.toNat]? = none := List.getElem?_eq_none (by omega)
  have hce := crash_none (torn := torn) rfl hon
  have e2 : os.take keep.toNat = os.take k := by rw [List.take_of_length_le (by omega), List.take_of_length_le (by omega)]
  rw [e2] at hce
  have hDR : DiskRd B Z (w.setCell ⟨D, 1, none⟩ (.slice A k c)) D fm (crashOps os keep torn) := by
   rw [hce]
   exact disk_set hB hb hBD hBM hM (by rw [List.length_take]; omega) hG hPk (by rw [← hce]; exact hcr.1)
  generalize crashOps os keep torn = co at *
  have HC1 := Lib.hid hC1
  have hr0 : ¬ (0 : Int) < ((ps.length - k : Nat) : Int) := by omega
  have hr1 : ¬ (0 : Nat) < ps.length - k := by omega
  have hr2 : ps.length - k = 0 := by omega
  have CS := Lib.hid (dsync_any B Z D fm co (w.setCell ⟨D, 1, none⟩ (.slice A k c)) (by simpa [World.setCell] using hB) hDR hZ)
  clear hce e2 hon hke hb hps hl hk hi hz0 hz1 hz2 hpre etk eot hltk hPk hC1 h3
  unfold maxLen at h2
  go_enter Try.func24, Try.ntmps24
  go_wp2_with fail
  (with_reducible refine CS.out.mono ?_)
  rintro e w1 hS
  have hS := hS.after HC1.out
  obtain ⟨u, rfl, hS1, hS2⟩ := hS
  go_wp2_with fail
  go_end0
  exact ⟨_, rfl, hS1, hS2⟩
end
end Go.Proofs.Ythfbfmkdplifeaa
