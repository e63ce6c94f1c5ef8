/-
 File
-/
import Derived.Test.YthfbfmkdplifeaaIter
import Derived.Test.YthfbfmkdplifeaaDWal
namespace Go.Proofs.Ythfbfmkdplifeaa
section
set_option maxRecDepth 100000
open Go.RowKit Go.Lib Go.IntWalk Go.Maps Go.Sort
abbrev FL := List (List UInt8 × List UInt8)
def srtK (ks : List (List UInt8)) : Prop := ks.Pairwise (· < ·)
def lookL : FL → List UInt8 → Option (List UInt8)
 | [], _ => none
 |(k, l) :: r, x => if x = k then some l else lookL r x
/-- the list of the files, ascending by name -/
def IsL (fm : FM) (fl : FL) : Prop := srtK (fl.map (·.1)) ∧ ∀ k, lookL fl k = fm k
theorem triB (a b : List UInt8) : a < b ∨ a = b ∨ b < a := by
 by_cases h1 : a < b
 ·exact .inl h1
 by_cases h2 : b < a
 ·exact .inr (.inr h2)
 exact .inr (.inl (List.le_antisymm (List.not_lt.1 h2) (List.not_lt.1 h1)))
theorem lookL_none : ∀ {a : FL} {k : List UInt8}, (∀ p ∈ a, p.1 ≠ k) → lookL a k = none
 | [], _, _ => rfl
 |(x, l) :: r, k, h => by
  rw [lookL, if_neg (fun e => h (x, l) (List.mem_cons_self ..) e.symm)]
  exact lookL_none fun p hp => h p (List.mem_cons_of_mem _ hp)
theorem lookL_mem : ∀ {a : FL} {k l : List UInt8}, lookL a k = some l → (k, l) ∈ a
 | [], _, _, h => by cases h
 |(x, m) :: r, k, l, h => by
  rw [lookL] at h
  split at h
  ·rename_i e; subst e; cases h; exact List.mem_cons_self ..
  ·exact List.mem_cons_of_mem _ (lookL_mem h)
theorem srt_head {x : List UInt8} {l : List UInt8} {r : FL} (h : srtK (((x, l) :: r).map (·.1))) : (∀ p ∈ r, x < p.1) ∧ srtK (r.map (·.1)) := by
 have := List.pairwise_cons.1 h
 exact ⟨fun p hp => this.1 _ (List.mem_map.2 ⟨p, hp, rfl⟩), this.2⟩
theorem lookL_below {a : FL} {k : List UInt8} (h : ∀ p ∈ a, k < p.1) : lookL a k = none := lookL_none fun p hp e => by have := h p hp; rw [e] at this; exact List.lt_irrefl _ this
theorem look_unique : ∀ {a b : FL}, srtK (a.map (·.1)) → srtK (b.map (·.1)) → (∀ k, lookL a k = lookL b k) → a = b
 | [], [], _, _, _ => rfl
 | [], (k, l) :: r, _, _, h => by have := h k; simp [lookL] at this
 |(k, l) :: r, [], _, _, h => by have := h k; simp [lookL] at this
 |(k, l) :: r, (k', l') :: r', ha, hb, h => by
  obtain ⟨a1, a2⟩ := srt_head ha
  obtain ⟨b1, b2⟩ := srt_head hb
  rcases triB k k' with hlt | rfl | hlt
  ·have h1 := h k
   rw [lookL, if_pos rfl, lookL_below (fun p hp => by
    rcases List.mem_cons.1 hp with rfl | hp
    ·exact hlt
    ·exact List.lt_trans hlt (b1 p hp))] at h1
   cases h1
  ·have h1 := h k
   rw [lookL, if_pos rfl, lookL, if_pos rfl] at h1
   cases h1
   rw [look_unique a2 b2 fun x => ?_]
   by_cases hx : x = k
   ·subst hx; rw [lookL_below a1, lookL_below b1]
   ·have h2 := h x
    rwa [lookL, if_neg hx, lookL, if_neg hx] at h2
  ·have h1 := h k'
   rw [show lookL ((k', l') :: r') k' = some l' from by rw [lookL, if_pos rfl], lookL_below (fun p hp => by
    rcases List.mem_cons.1 hp with rfl | hp
    ·exact hlt
    ·exact List.lt_trans hlt (a1 p hp))] at h1
   cases h1
theorem IsL.unique {fm : FM} {a b : FL} (ha : IsL fm a) (hb : IsL fm b) : a = b := look_unique ha.1 hb.1 fun k => (ha.2 k).trans (hb.2 k).symm
theorem isL_keys {fm : FM} {ks : List (List UInt8)} (hs : srtK ks) (hm : ∀ x, x ∈ ks ↔ (fm x).isSome = true) : IsL fm (ks.map fun k => (k, (fm k).getD [])) := by
 refine ⟨by rw [List.map_map]; simpa [Function.comp_def] using hs, fun x => ?_⟩
 have key : ∀ ls : List (List UInt8), lookL (ls.map fun k => (k, (fm k).getD [])) x = if x ∈ ls then some ((fm x).getD []) else none := by
  intro ls
  induction ls with
  | nil => rfl
  | cons y r ih =>
   rw [List.map_cons, lookL, ih]
   by_cases hy : x = y
   ·subst hy; simp
   ·rw [if_neg hy]; simp [hy]
 rw [key]
 cases hx : fm x with
 | none => rw [if_neg (fun h => by have := (hm x).1 h; rw [hx] at this; cases this)]
 | some l => rw [if_pos ((hm x).2 (by rw [hx]; rfl))]; rfl
/-! how files lie -/
def fileC (p : (List UInt8 × List UInt8) × Value) : List Value := [.string (strB p.1.1), p.2]
theorem fileC_len (p : (List UInt8 × List UInt8) × Value) : (fileC p).length = 2 := rfl
def fileCs (ps : List ((List UInt8 × List UInt8) × Value)) : List Value := ps.flatMap fileC
theorem fileCs_snoc (ps : List ((List UInt8 × List UInt8) × Value)) (p : (List UInt8 × List UInt8) × Value) : fileCs (ps ++ [p]) = fileCs ps ++ fileC p := by simp [fileCs]
/-- a block of files -/
def FR (B : Nat) (w : World) (b : Nat) : Prop := b < B ∨ ∃ cs, w.heap[b]? = some (.cells cs 43 (0, 0))
def FlsRd [Inhabited Nb] (B : Nat) (w : World) (v : Value) (fl : FL) : Prop :=
 ∃ ps : List ((List UInt8 × List UInt8) × Value), ps.map (·.1) = fl ∧ Rd w (FR B w) 2 v ps.length (fileCs ps) ∧ ∀ p ∈ ps, DatB B w p.2 p.1.2
def FlsOwn [Inhabited Nb] (base B : Nat) (w : World) (v : Value) (fl : FL) : Prop :=
 ∃ ps : List ((List UInt8 × List UInt8) × Value), ps.map (·.1) = fl ∧ w.ownsRow base 43 2 v ps.length (fileCs ps) ∧ ∀ p ∈ ps, DatB B w p.2 p.1.2
theorem FlsOwn.nil [Inhabited Nb] (base B : Nat) (w : World) : FlsOwn base B w (.slice none 0 0) [] := ⟨[], rfl, World.ownsRow_nil w _ _ _, fun p hp => by cases hp⟩
theorem FlsOwn.rd {_ : Inhabited Nb} {base B : Nat} {w : World} {v : Value} {fl : FL} (h : FlsOwn base B w v fl) : FlsRd B w v fl := by
 obtain ⟨ps, h1, h, h2⟩ := h
 refine ⟨ps, h1, ⟨h.1, ?_⟩, h2⟩
 rcases h.2 with ⟨rfl, h0⟩ | ⟨g, cap, cur, rfl, hb, hg, hnc, hcm, hcs, htake⟩
 ·rw [h0]
  exact ⟨none, 0, rfl, Nat.le_refl _, Nat.zero_le _, fun _ => rfl, fun h => absurd h (by omega)⟩
 ·exact ⟨_, cap, rfl, hnc, hcm, fun h => (Option.some_ne_none _ h).elim, fun _ => ⟨_, rfl, .inr ⟨cur, hg⟩, World.ownsRow.cells (g := g) h rfl⟩⟩
theorem FlsRd.chg {_ : Inhabited Nb} {B : Nat} {w w' : World} {S : Nat → Prop} {v : Value} {fl : FL} (h : FlsRd B w v fl) (hB : B ≤ w.heap.size) (hc : Chg S w w') (hs : ∀ b, BR B w b → ¬ S b) (ht : ∀ b, FR B w b → ¬ S b) : FlsRd B w' v fl := by
 obtain ⟨ps, h1, hr, hd⟩ := h
 have hk : ∀ b, FR B w b → w'.heap[b]? = w.heap[b]? := by
  intro b hb
  refine hc.block b ?_ (ht b hb)
  rcases hb with hb | ⟨cs, hb⟩
  ·omega
  ·exact (Array.getElem?_eq_some_iff.1 hb).1
 refine ⟨ps, h1, (Rd.keep hr hk).wide ?_, fun p hp => (hd p hp).chg hB hc hs⟩
 intro b hb
 have := hk b hb
 rcases hb with hb | ⟨cs, hb⟩
 ·exact .inl hb
 ·exact .inr ⟨cs, this.trans hb⟩
theorem FlsRd.below {_ : Inhabited Nb} {B : Nat} {w w' : World} {v : Value} {fl : FL} (h : FlsRd B w v fl) (hB : B ≤ w.heap.size) (hb : Below w.heap.size w w') : FlsRd B w' v fl :=
 h.chg hB (Chg.of_below hb (fun _ => False)) (fun _ _ h => h) (fun _ _ h => h)
theorem FlsOwn.below {_ : Inhabited Nb} {base B : Nat} {w w' : World} {v : Value} {fl : FL} (h : FlsOwn base B w v fl) (hB : B ≤ w.heap.size) (hb : Below w.heap.size w w') : FlsOwn base B w' v fl := by
 obtain ⟨ps, h1, hr, hd⟩ := h
 exact ⟨ps, h1, World.ownsRow.kept (row := none) hr ⟨hb.os, hb.tape, hb.output, hb.size, fun k hk _ => hb.block k hk⟩ (by cases v.ownBlock <;> simp), fun p hp => (hd p hp).below hB hb⟩
theorem FlsRd.open_ {_ : Inhabited Nb} {B : Nat} {w : World} {v : Value} {fl : FL} (h : FlsRd B w v fl) : ∃ A c, v = .slice A fl.length c ∧ fl.length ≤ c ∧ c ≤ maxLen ∧ (A = none → c = 0) := by
 obtain ⟨ps, rfl, hr, hd⟩ := h
 rw [List.length_map]
 exact hr.open_
theorem FlsRd.elem {_ : Inhabited Nb} {B : Nat} {w : World} {A : Option Addr} {c : Nat} {fl : FL} (h : FlsRd B w (.slice A fl.length c) fl) {k : Nat} {q : List UInt8 × List UInt8} (hk : fl[k]? = some q) :
  ∃ b off dv, A = some ⟨b, off, none⟩ ∧ w.cell? ⟨b, off + k * 2, none⟩ = some (.string (strB q.1)) ∧ w.cell? ⟨b, off + k * 2 + 1, none⟩ = some dv ∧ DatB B w dv q.2 ∧ FR B w b := by
 obtain ⟨ps, rfl, hr, hd⟩ := h
 rw [List.length_map] at hr
 rw [List.getElem?_map, Option.map_eq_some_iff] at hk
 obtain ⟨p, hp, rfl⟩ := hk
 obtain ⟨hlt, _⟩ := List.getElem?_eq_some_iff.1 hp
 obtain ⟨b, off, rfl, hF, hc⟩ := Rd.plain hr (by omega) (by omega)
 have e0 := hc (k * 2) (.string (strB p.1.1)) (by have := flat_get 2 fileC fileC_len ps k 0 (by omega) p hp; rw [Nat.add_zero] at this; exact this)
 have e1 := hc (k * 2 + 1) p.2 (flat_get 2 fileC fileC_len ps k 1 (by omega) p hp)
 exact ⟨b, off, p.2, rfl, e0, by rw [Nat.add_assoc]; exact e1, hd p (List.mem_of_getElem? hp), hF⟩
theorem own_br [Inhabited Nb] {base B : Nat} {w : World} {v : Value} {n : Nat} {cs : List Value} (h : w.ownsRow base 43 2 v n cs) (hb : B ≤ base) : ∀ b, BR B w b → ¬ some b = v.ownBlock := by
 rintro b hbr e
 obtain ⟨h1, cur, hc⟩ := own_block h e
 rcases hbr.old with hbr | ⟨cs', fr, hbr⟩
 ·omega
 ·rw [hbr] at hc; simp only [Option.some.injEq, Obj.cells.injEq] at hc; exact absurd hc.2.1 (by decide)
theorem FlsOwn.push {_ : Inhabited Nb} {base B : Nat} {w w' : World} {v v' : Value} {ps : List ((List UInt8 × List UInt8) × Value)} {q : List UInt8 × List UInt8} {dv : Value} (hB : B ≤ w.heap.size) (hbb : B ≤ base)
  (hO : w.ownsRow base 43 2 v ps.length (fileCs ps)) (hd : ∀ p ∈ ps, DatB B w p.2 p.1.2) (hq : DatB B w dv q.2) (hg : w.grownBy w' v.ownBlock)
  (hO' : w'.ownsRow base 43 2 v' (ps.length + 1) (fileCs ps ++ fileC (q, dv))) : FlsOwn base B w' v' (ps.map (·.1) ++ [q]) := by
 have hbr := own_br hO hbb
 have hc := Chg.of_grown hg
 refine ⟨ps ++ [(q, dv)], by simp, ?_, fun p hp => ?_⟩
 ·rw [fileCs_snoc, List.length_append]; exact hO'
 ·rcases List.mem_append.1 hp with hp | hp
  ·exact (hd p hp).chg hB hc hbr
  ·obtain rfl := List.mem_singleton.1 hp
   exact hq.chg hB hc hbr
theorem fileC_one (q : List UInt8 × List UInt8) (dv : Value) (h : dv.oneCell' = true) : ∀ u ∈ fileC (q, dv), u.oneCell' = true := by
 intro u hu
 simp only [fileC, List.mem_cons, List.not_mem_nil, or_false] at hu
 rcases hu with rfl | rfl
 ·rfl
 ·exact h
theorem infoF : (Try.prog.info? 43).map (fun i => (i.zero, i.size, i.bytes)) = some (some (.agg #[.string (strB []), .slice none 0 0]), 2, 40) := by kernel_rfl
/-! the sorted names of a map -/
theorem keys_facts {w : World} {M n : Nat} {D : DataW Value} (hown : w.ownsMap Try.prog 9 heldE M n D) : (strKeys D).Nodup ∧ (∀ x, x ∈ strKeys D ↔ Maps.has D (.string x) = true) ∧ Maps.size D ≤ n := by
 have hsz : Maps.size D ≤ n := hown.size_le
 obtain ⟨es, hD, hpw, _⟩ := hown.entries lawS
 obtain ⟨es', hD', hko⟩ := hown.keysOf
 obtain rfl : es = es' := by rw [hD] at hD'; simpa using hD'
 subst hD
 have hk : ∀ p ∈ es, ∃ x, p.1 = .string x := fun p hp => by obtain ⟨v, hv⟩ := hko p hp; obtain ⟨x, _, hx, _⟩ := Maps.keyOf_str Try.underlying9 hv; exact ⟨x, hx⟩
 refine ⟨?_, fun x => ?_, hsz⟩
 ·show (es.map fun p => strOf p.1).Nodup
  refine List.pairwise_map.2 (hpw.imp_of_mem fun {p q} hp' hq' hne e => hne ?_)
  obtain ⟨a, ha⟩ := hk p hp'
  obtain ⟨b, hb⟩ := hk q hq'
  rw [ha, hb] at e ⊢
  exact congrArg _ e
 ·rw [Maps.has_eq, List.any_eq_true]
  show x ∈ es.map (fun p => strOf p.1) ↔ _
  rw [List.mem_map]
  constructor
  ·rintro ⟨p, hp, rfl⟩
   obtain ⟨a, ha⟩ := hk p hp
   refine ⟨p, hp, ?_⟩
   rw [ha]; simp [Lit.sameKey, strOf]
  ·rintro ⟨p, hp, h⟩
   obtain ⟨a, ha⟩ := hk p hp
   refine ⟨p, hp, ?_⟩
   rw [ha] at h ⊢
   simpa [Lit.sameKey, strOf] using h
theorem sorted_facts {ss : List (List UInt8)} (hnd : ss.Nodup) : srtK (ss.mergeSort fun x y => decide (x ≤ y)) ∧ (∀ x, x ∈ ss.mergeSort (fun x y => decide (x ≤ y)) ↔ x ∈ ss) ∧ (ss.mergeSort fun x y => decide (x ≤ y)).length = ss.length := by
 have tr : ∀ a b c : List UInt8, leB a b = true → leB b c = true → leB a c = true := fun a b c h1 h2 => by simp only [leB, decide_eq_true_eq] at *; exact List.le_trans h1 h2
 have to : ∀ a b : List UInt8, (leB a b || leB b a) = true := fun a b => by simp only [leB, Bool.or_eq_true, decide_eq_true_eq]; exact List.le_total a b
 have hp := List.mergeSort_perm ss leB
 refine ⟨?_, fun x => hp.mem_iff, hp.length_eq⟩
 have h1 := List.pairwise_mergeSort tr to ss
 have h2 : (ss.mergeSort leB).Nodup := hp.nodup_iff.2 hnd
 refine (List.Pairwise.and h1 h2).imp fun {a b} h => ?_
 have h3 : a ≤ b := by simpa [leB] using h.1
 rcases triB a b with h4 | h4 | h4
 ·exact h4
 ·exact absurd h4 h.2
 ·exact absurd h4 (List.not_lt.2 h3)
def ListOut [Inhabited Nb] (B : Nat) (fm : FM) (w0 : World) (e : Ending) (w : World) : Prop := ∃ v fl, e = .returned v ∧ FlsOwn w0.heap.size B w v fl ∧ IsL fm fl ∧ Below w0.heap.size w0 w
end
section
set_option maxRecDepth 100000
open Go.RowKit Go.Lib Go.IntWalk Go.Maps Go.Sort
def ListRel [Inhabited Nb] (B : Nat) (fm : FM) (ks : List (List UInt8)) (w2 : World) (out i : Value) (w : World) : Prop :=
 ∃ k : Nat, k ≤ ks.length ∧ i = .int .i64 (k : Int) ∧ FlsOwn w2.heap.size B w out ((ks.take k).map fun k => (k, (fm k).getD [])) ∧ Below w2.heap.size w2 w
set_option maxRecDepth 100000 in
set_option maxHeartbeats 2000000 in
theorem dlist_any [Inhabited Nb] (B M n : Nat) (g : List UInt8 → Option Value) (fm : FM) (w : World) (hB : B ≤ w.heap.size) (hM : MapIs w M n g) (hG : GRd B w g fm) (hn : n ≤ 1099511627776) (hz : ∀ key, ((fm key).getD []).length ≤ 1099511627776) :
  Calls Try.prog 35 #[.map (some M)] w (ListOut B fm w) := by
 obtain ⟨i0, hi, hz0, hz1, hz2⟩ := info_parts infoF
 have hML := hM.lt
 have hM' := hM
 obtain ⟨D, hown, hhas, hat⟩ := hM
 obtain ⟨hnd, hmem, hsz⟩ := keys_facts hown
 have hle := strKeys_le hown Try.underlying9
 have CK := Lib.hid (callsIn_wide.1 (Try.maps_Keys_41 (some M) w))
 have CS := Lib.hid (callsIn_wide.1 (Try.slices_Sorted_keys_40_41 M n D heldE w hown (by unfold maxLen; omega) (by omega)))
 have HND := Lib.hid hnd
 have HMEM : Hid (∀ x, x ∈ strKeys D ↔ (fm x).isSome = true) := Lib.hid fun x => by rw [hmem, hhas, hG.some_eq]
 have HLE := Lib.hid hle
 have HZ := Lib.hid hz
 have HAT := Lib.hid hat
 clear hnd hmem hle hz hhas hat hown
 go_enter Try.func35, Try.ntmps35
 go_wp2_with fail
 (with_reducible refine CK.out.mono ?_)
 rintro _ _ ⟨rfl, rfl⟩
 clear CK
 go_wp2_with fail
 (with_reducible refine CS.out.mono ?_)
 rintro _ w2 ⟨vk, ss, rfl, hperm, hrow, _, hb2⟩
 clear CS
 obtain ⟨hs1, hs2, hs3⟩ := sorted_facts (hperm.nodup_iff.2 HND.out)
 generalize ss.mergeSort (fun x y => decide (x ≤ y)) = ks at *
 have HKM : Hid (∀ x, x ∈ ks ↔ (fm x).isSome = true) := Lib.hid fun x => by rw [hs2, hperm.mem_iff, HMEM.out]
 have HKL : Hid (∀ x ∈ ks, x.length ≤ maxLen) := Lib.hid fun x hx => HLE.out x (hperm.mem_iff.1 ((hs2 x).1 hx))
 have HKS := Lib.hid hs1
 have hkn : ks.length ≤ n := by rw [hs3, hperm.length_eq]; have h1 : (strKeys D).length ≤ Maps.size D := (by cases D <;> simp [strKeys, Maps.size]); omega
 rw [← hs3] at hrow
 clear hs1 hs2 hs3 hperm HND HMEM HLE
 have hb2' : Below w.heap.size w w2 := (Below.of_alloc _).trans (hb2.mono (by simp))
 have hB2 : B ≤ w2.heap.size := by have := hb2'.size; omega
 have hrd : Rd w2 (· < w2.heap.size) 1 vk ks.length (ks.map encStr) := (Rd.of_own hrow).wide fun _ hb => hb.2
 obtain ⟨Ak, ck, rfl, k1, k2, k3⟩ := hrd.open_
 clear k3 hrow hb2
 unfold maxLen at k2
 go_wp2_with fail
 go_loopw [3, 10] (fun out i wr => ListRel B fm ks w2 out i wr) (fun _ i _ => ks.length - (intOf i).toNat)
 case atStart => exact ⟨0, Nat.zero_le _, rfl, FlsOwn.nil _ _ _, Below.refl _ _⟩
 case round =>
  obtain ⟨k, hk, rfl, hO, hbr⟩ := hrel
  have hBr : B ≤ wr.heap.size := by have := hbr.size; omega
  have hbw : Below w.heap.size w wr := hb2'.trans (hbr.mono hb2'.size)
  by_cases hlt : k < ks.length
  ·have hrd' := Rd.keep hrd (fun b hb => hbr.block b hb)
   obtain ⟨bk, ok, rfl, _, hck⟩ := Rd.plain hrd' (by omega) (by omega)
   have hc0 : wr.cell? ⟨bk, ok + k, none⟩ = some (.string (strB ks[k])) := hck k _ (by rw [List.getElem?_map, List.getElem?_eq_getElem hlt]; rfl)
   have hMr : MapIs wr M n g := hM'.block (hbw.block M hML)
   have hkl := HKL.out _ (List.getElem_mem hlt)
   have hlk := hMr.look ks[k] hkl
   have hGr := hG.chg hB (Chg.of_below hbw (fun _ => False)) (fun _ _ h => h)
   have hdk := hGr.get ks[k]
   have hlz := HZ.out ks[k]
   have HT : Hid ((ks.take (k + 1)).map (fun k => (k, (fm k).getD [])) = (ks.take k).map (fun k => (k, (fm k).getD [])) ++ [(ks[k], (fm ks[k]).getD [])]) := Lib.hid (by rw [List.take_succ_eq_append_getElem hlt, List.map_append]; rfl)
   generalize (g ks[k]).getD (.slice none 0 0) = gv at *
   generalize (fm ks[k]).getD [] = gl at *
   generalize ks[k] = kk at *
   clear hck hGr hMr
   obtain ⟨ps, hps, hpo, hpd⟩ := hO
   have hpl : ps.length = k := by have := congrArg List.length hps; simp at this; omega
   go_wp2_with fail
   (with_reducible refine (clone_any gv gl wr (hdk.rd hBr) hlz).mono ?_)
   rintro _ w3 ⟨v3, rfl, hO3, hb3⟩
   obtain ⟨A3, c3, rfl, _, _, _⟩ := hO3.rd.open_
   have hB3 : B ≤ w3.heap.size := by have := hb3.size; omega
   have hbs := hbr.size
   have hb3s := hb3.size
   have hpo3 : w3.ownsRow w2.heap.size 43 2 u3 ps.length (fileCs ps) := World.ownsRow.kept (row := none) hpo ⟨hb3.os, hb3.tape, hb3.output, hb3.size, fun k hk _ => hb3.block k hk⟩ (by cases u3.ownBlock <;> simp)
   have hpd3 : ∀ p ∈ ps, DatB B w3 p.2 p.1.2 := fun p hp => (hpd p hp).below hBr hb3
   have hdv3 : DatB B w3 (.slice A3 gl.length c3) gl := DatB.of_own hO3 hdk.nb
   have hbr3 : Below w2.heap.size w2 w3 := hbr.trans (hb3.mono hbs)
   clear hpd hpo
   go_wp2_with (at_builtin; refine wpList_append_app _ rfl (.tmp 14) (.tmp 21) 22 rfl w2.heap.size 43 i0 _ 2 40 Try.underlying22 hi hz0 hz1 hz2 rfl (by omega) u3 ps.length (fileCs ps) rfl (by exact .inl (World.ownsRow.alloc hpo3 _)) (· = w3.heap.size) _ 1 (fileC ((kk, gl), .slice A3 gl.length c3)) rfl (by exact Rd.new' _ w3.heap.size rfl (fileC ((kk, gl), .slice A3 gl.length c3)) 43 2 1 rfl (by unfold maxLen; omega)) (fileC_one _ _ rfl) (by unfold maxLen; omega) (by omega) (by simp; omega) ?_; intro v4 w4 _ hO4 hg4 hb4 _)
   go_roundw
   case rel =>
    refine ⟨k + 1, by omega, by go_num, ?_, (hbr3.alloc hbr3.size _).trans hb4⟩
    rw [HT.out, ← hps]
    exact FlsOwn.push (dv := .slice A3 gl.length c3) (by simp; omega) hB2 (World.ownsRow.alloc hpo3 _) (fun p hp => (hpd3 p hp).alloc hB3 _) (hdv3.alloc hB3 _) hg4 (hO4 (.inl (by omega)))
   case measure => simp [intOf]; omega
  ·have hke : k = ks.length := by omega
   subst hke
   rw [List.take_length] at hO
   go_wp2_with fail
   go_ret
   refine ⟨_, _, rfl, ?_, isL_keys HKS.out HKM.out, hbw⟩
   obtain ⟨ps, h1, h2, h3⟩ := hO
   exact ⟨ps, h1, own_base h2 hb2'.size, h3⟩
theorem DiskAt.sz {_ : Inhabited Nb} {B Z : Nat} {w : World} {D : Nat} {P : Option Nat} {fm : FM} {os : List DOp} (h : DiskAt B Z w D P fm os) : DSz Z fm os := by
 obtain ⟨M, n, g, pv, h1, h2, h3, h4, h5, h6, h7, h8, _⟩ := h; exact h8
set_option maxRecDepth 100000 in
set_option maxHeartbeats 1000000 in
theorem dfiles_any [Inhabited Nb] (B Z D : Nat) (fm : FM) (os : List DOp) (w : World) (hB : B ≤ w.heap.size) (hD : DiskRd B Z w D fm os) (hZ : Z ≤ 1099511627776) :
  Calls Try.prog 23 #[.pointer (some ⟨D, 0, none⟩)] w (ListOut B fm w) := by
 obtain ⟨M, n, g, pv, hb, hBD, hBM, hM, hn, hG, hP, hZs⟩ := hD
 have hc0 : w.cell? ⟨D, 0, none⟩ = some (.map (some M)) := cell_of_row w D 0 _ _ _ hb
 have CL := Lib.hid (dlist_any B M n g fm w hB hM hG (by omega) (fun key => by have := hZs.get key; omega))
 go_enter Try.func23, Try.ntmps23
 go_wp2_with fail
 (with_reducible refine CL.out.mono ?_)
 rintro _ w1 ⟨v, fl, rfl, h1, h2, h3⟩
 go_wp2_with fail
 go_ret
 exact ⟨_, _, rfl, h1, h2, h3⟩
set_option maxRecDepth 100000 in
set_option maxHeartbeats 1000000 in
theorem dviewl_any [Inhabited Nb] (B Z D : Nat) (fm : FM) (os : List DOp) (w : World) (hB : B ≤ w.heap.size) (hD : DiskRd B Z w D fm os) (hZ : Z ≤ 1099511627776) :
  Calls Try.prog 21 #[.pointer (some ⟨D, 0, none⟩)] w (ListOut B (viewF fm os) w) := by
 have CV := Lib.hid (view_any B Z D fm os w hB hD hZ)
 obtain ⟨M, n, g, pv, hb, hBD, hBM, hM, hn, hG, hP, hZs⟩ := hD
 have HZS := Lib.hid hZs.view
 go_enter Try.func21, Try.ntmps21
 go_wp2_with fail
 (with_reducible refine CV.out.mono ?_)
 rintro _ w1 ⟨M1, n1, g1, rfl, hM1l, hM1, hn1, hG1, hb1⟩
 have hB1 : B ≤ w1.heap.size := by have := hb1.size; omega
 go_wp2_with fail
 (with_reducible refine (dlist_any B M1 n1 g1 _ w1 hB1 hM1 hG1 (by omega) (fun key => by have := HZS.out.get key; omega)).mono ?_)
 rintro _ w2 ⟨v, fl, rfl, ⟨ps, p1, p2, p3⟩, h2, h3⟩
 go_wp2_with fail
 go_ret
 exact ⟨_, _, rfl, ⟨ps, p1, own_base p2 hb1.size, p3⟩, h2, hb1.trans (h3.mono hb1.size)⟩
end
section
set_option maxRecDepth 100000
open Go.RowKit Go.Lib Go.IntWalk
theorem fl_ne {a b : FL} (k : Nat) (hk : k < a.length) (hkb : k < b.length) (h : ¬ (a[k].1 = b[k].1 ∧ a[k].2 = b[k].2)) : decide (a = b) = false := by
 rw [decide_eq_false_iff_not]; rintro rfl; exact h ⟨rfl, rfl⟩
theorem fl_eq {a b : FL} (hl : a.length = b.length) (h : a.take a.length = b.take a.length) : decide (a = b) = true := by
 rw [decide_eq_true_eq]; rwa [List.take_length, hl, List.take_length] at h
theorem fl_step {a b : FL} {k : Nat} (h : a.take k = b.take k) (ha : k < a.length) (hb : k < b.length) (e : a[k].1 = b[k].1) (e2 : a[k].2 = b[k].2) : a.take (k + 1) = b.take (k + 1) := by
 rw [List.take_succ_eq_append_getElem ha, List.take_succ_eq_append_getElem hb, h, show a[k] = b[k] from Prod.ext e e2]
theorem str_eq_self (x : List UInt8) : ((strB x).toList == (strB x).toList) = true := by simp
theorem str_ne {x y : List UInt8} (h : ¬ x = y) : ((strB x).toList == (strB y).toList) = false := by
 rw [beq_eq_false_iff_ne, ByteArray.toList_eq, ByteArray.toList_eq]; simpa [strB] using h
set_option maxRecDepth 100000 in
set_option maxHeartbeats 4000000 in
theorem rsame_any [Inhabited Nb] (B : Nat) (va vb : Value) (la lb : FL) (w : World) (hB : B ≤ w.heap.size) (ha : FlsRd B w va la) (hb : FlsRd B w vb lb) :
  Calls Try.prog 22 #[va, vb] w fun e w' => e = .returned (.bool (decide (la = lb))) ∧ Below w.heap.size w w' := by
 obtain ⟨Aa, ca, rfl, a1, a2, a3⟩ := ha.open_
 obtain ⟨Ab, cb, rfl, b1, b2, b3⟩ := hb.open_
 unfold maxLen at a2 b2
 generalize hr : decide (la = lb) = r
 have HR := Lib.hid hr
 clear hr a3 b3
 by_cases hl : la.length = lb.length
 ·have q1 : ((la.length : Int) != (lb.length : Int)) = false := by simp [hl]
  have HL := Lib.hid hl
  have hll : la.length ≤ lb.length := by omega
  clear hl
  go_enter Try.func22, Try.ntmps22
  go_wp2_with fail
  go_loopw [13] (fun i wr => ∃ k : Nat, k ≤ la.length ∧ i = .int .i64 (k : Int) ∧ la.take k = lb.take k ∧ Below w.heap.size w wr) (fun i _ => la.length - (intOf i).toNat)
  case atStart => exact ⟨0, Nat.zero_le _, rfl, rfl, Below.refl _ _⟩
  case round =>
   obtain ⟨k, hk, rfl, ht, hbw⟩ := hrel
   have HT := Lib.hid ht
   clear ht
   by_cases hlt : k < la.length
   ·have hlb : k < lb.length := by omega
    obtain ⟨ba, oa, ua, rfl, ga, ga1, da, _⟩ := FlsRd.elem (ha.below hB hbw) (List.getElem?_eq_getElem hlt)
    obtain ⟨bb, ob, ub, rfl, gb, gb1, db, _⟩ := FlsRd.elem (hb.below hB hbw) (List.getElem?_eq_getElem hlb)
    have HNE := Lib.hid (@fl_ne la lb k hlt hlb)
    have HST := Lib.hid (@fl_step la lb k HT.out hlt hlb)
    have cva := run_bytes_str (DatB.drew da)
    have cvb := run_bytes_str (DatB.drew db)
    obtain ⟨Xa, xa, rfl, _, _, _⟩ := Rd.open_ da
    obtain ⟨Xb, xb, rfl, _, _, _⟩ := Rd.open_ db
    generalize la[k].1 = na at *
    generalize lb[k].1 = nb at *
    generalize la[k].2 = xa' at *
    generalize lb[k].2 = xb' at *
    by_cases hen : na = nb
    ·subst hen
     have htn := str_eq_self na
     by_cases he : xa' = xb'
     ·subst he
      have HS2 := Lib.hid (HST.out rfl rfl)
      clear HST HNE
      have ht2 := str_eq_self xa'
      go_wp2_with fail
      refine wp_region_noPanic ?_
      refine wp_region_held_drew (S := (fun w' => w' = wr.drew)) (by kernel_rfl) ?_ (fun hHeld => ?_)
      ·rfl
      refine heldTake 0 (some 16) (v := ?_) rfl rfl (by kernel_rfl) (by kernel_rfl) (by kernel_rfl) (by rfl) hHeld (fun _ _ _ h => h) ?_ ?_
      rotate_left
      ·intro w' hSw; (try dsimp only at hSw); subst hSw; go_simp <;> with_reducible rfl
      simp only [Act.put, List.setIfInBounds_toArray, List.set_cons_zero, List.set_cons_succ]
      refine heldTake 1 (some 17) (v := ?_) rfl rfl (by kernel_rfl) (by kernel_rfl) (by kernel_rfl) (by rfl) hHeld (fun _ _ _ h => h) ?_ ?_
      rotate_left
      ·intro w' hSw; (try dsimp only at hSw); subst hSw; go_simp <;> with_reducible rfl
      simp only [Act.put, List.setIfInBounds_toArray, List.set_cons_zero, List.set_cons_succ]
      refine heldTake 2 (some 18) (v := ?_) rfl rfl (by kernel_rfl) (by kernel_rfl) (by kernel_rfl) (by rfl) hHeld (fun _ _ _ h => h) ?_ ?_
      rotate_left
      ·intro w' hSw; (try dsimp only at hSw); subst hSw; go_simp <;> with_reducible rfl
      simp only [Act.put, List.setIfInBounds_toArray, List.set_cons_zero, List.set_cons_succ]
      refine heldTake 3 (some 19) (v := ?_) rfl rfl (by kernel_rfl) (by kernel_rfl) (by kernel_rfl) (by rfl) hHeld (fun _ _ _ h => h) ?_ ?_
      rotate_left
      ·intro w' hSw; (try dsimp only at hSw); subst hSw; go_simp <;> with_reducible rfl
      simp only [Act.put, List.setIfInBounds_toArray, List.set_cons_zero, List.set_cons_succ]
      refine heldTake 4 (some 20) (v := ?_) rfl rfl (by kernel_rfl) (by kernel_rfl) (by kernel_rfl) (by rfl) hHeld (fun _ _ _ h => h) ?_ ?_
      rotate_left
      ·intro w' hSw; (try dsimp only at hSw); subst hSw; go_simp <;> with_reducible rfl
      simp only [Act.put, List.setIfInBounds_toArray, List.set_cons_zero, List.set_cons_succ]
      refine heldTake 5 (some 21) (v := ?_) rfl rfl (by kernel_rfl) (by kernel_rfl) (by kernel_rfl) (by rfl) hHeld (fun _ _ _ h => h) ?_ ?_
      rotate_left
      ·intro w' hSw; (try dsimp only at hSw); subst hSw; go_simp <;> with_reducible rfl
      simp only [Act.put, List.setIfInBounds_toArray, List.set_cons_zero, List.set_cons_succ]
      refine heldTake 6 (some 22) (v := ?_) rfl rfl (by kernel_rfl) (by kernel_rfl) (by kernel_rfl) (by rfl) hHeld (fun _ _ _ h => h) ?_ ?_
      rotate_left
      ·intro w' hSw; (try dsimp only at hSw); subst hSw; go_simp <;> with_reducible rfl
      simp only [Act.put, List.setIfInBounds_toArray, List.set_cons_zero, List.set_cons_succ]
      refine heldTake 7 (some 23) (v := ?_) rfl rfl (by kernel_rfl) (by kernel_rfl) (by kernel_rfl) (by rfl) hHeld (fun _ _ _ h => h) ?_ ?_
      rotate_left
      ·intro w' hSw; (try dsimp only at hSw); subst hSw; go_simp <;> with_reducible rfl
      simp only [Act.put, List.setIfInBounds_toArray, List.set_cons_zero, List.set_cons_succ]
      refine heldTake 8 (some 24) (v := ?_) rfl rfl (by kernel_rfl) (by kernel_rfl) (by kernel_rfl) (by rfl) hHeld (fun _ _ _ h => h) ?_ ?_
      rotate_left
      ·intro w' hSw; (try dsimp only at hSw); subst hSw; go_simp <;> with_reducible rfl
      simp only [Act.put, List.setIfInBounds_toArray, List.set_cons_zero, List.set_cons_succ]
      refine heldTake 9 (some 25) (v := ?_) rfl rfl (by kernel_rfl) (by kernel_rfl) (by kernel_rfl) (by rfl) hHeld (fun _ _ _ h => h) ?_ ?_
      rotate_left
      ·intro w' hSw; (try dsimp only at hSw); subst hSw; go_simp <;> with_reducible rfl
      simp only [Act.put, List.setIfInBounds_toArray, List.set_cons_zero, List.set_cons_succ]
      refine heldTake 10 (some 26) (v := ?_) rfl rfl (by kernel_rfl) (by kernel_rfl) (by kernel_rfl) (by rfl) hHeld (fun _ _ _ h => h) ?_ ?_
      rotate_left
      ·intro w' hSw; (try dsimp only at hSw); subst hSw; go_simp <;> with_reducible rfl
      simp only [Act.put, List.setIfInBounds_toArray, List.set_cons_zero, List.set_cons_succ]
      refine heldTake 11 (some 27) (v := ?_) rfl rfl (by kernel_rfl) (by kernel_rfl) (by kernel_rfl) (by rfl) hHeld (fun _ _ _ h => h) ?_ ?_
      rotate_left
      ·intro w' hSw; (try dsimp only at hSw); subst hSw; go_simp <;> with_reducible rfl
      simp only [Act.put, List.setIfInBounds_toArray, List.set_cons_zero, List.set_cons_succ]
      refine heldTake 12 (some 28) (v := ?_) rfl rfl (by kernel_rfl) (by kernel_rfl) (by kernel_rfl) (by rfl) hHeld (fun _ _ _ h => h) ?_ ?_
      rotate_left
      ·intro w' hSw; (try dsimp only at hSw); subst hSw; go_simp <;> with_reducible rfl
      simp only [Act.put, List.setIfInBounds_toArray, List.set_cons_zero, List.set_cons_succ]
      refine heldTake 13 (some 29) (v := ?_) rfl rfl (by kernel_rfl) (by kernel_rfl) (by kernel_rfl) (by rfl) hHeld (fun _ _ _ h => h) ?_ ?_
      rotate_left
      ·intro w' hSw; (try dsimp only at hSw); subst hSw; go_simp <;> with_reducible rfl
      simp only [Act.put, List.setIfInBounds_toArray, List.set_cons_zero, List.set_cons_succ]
      refine heldTake 14 (some 30) (v := ?_) rfl rfl (by kernel_rfl) (by kernel_rfl) (by kernel_rfl) (by rfl) hHeld (fun _ _ _ h => h) ?_ ?_
      rotate_left
      ·intro w' hSw; (try dsimp only at hSw); subst hSw; go_simp <;> with_reducible rfl
      simp only [Act.put, List.setIfInBounds_toArray, List.set_cons_zero, List.set_cons_succ]
      refine heldTake 15 (some 31) (v := ?_) rfl rfl (by kernel_rfl) (by kernel_rfl) (by kernel_rfl) (by rfl) hHeld (fun _ _ _ h => h) ?_ ?_
      rotate_left
      ·intro w' hSw; (try dsimp only at hSw); subst hSw; go_simp <;> with_reducible rfl
      simp only [Act.put, List.setIfInBounds_toArray, List.set_cons_zero, List.set_cons_succ]
      refine heldTake 16 (some 32) (v := ?_) rfl rfl (by kernel_rfl) (by kernel_rfl) (by kernel_rfl) (by rfl) hHeld (fun _ _ _ h => h) ?_ ?_
      rotate_left
      ·intro w' hSw; (try dsimp only at hSw); subst hSw; go_simp <;> with_reducible rfl
      simp only [Act.put, List.setIfInBounds_toArray, List.set_cons_zero, List.set_cons_succ]
      refine heldTake 17 (some 33) (v := ?_) rfl rfl (by kernel_rfl) (by kernel_rfl) (by kernel_rfl) (by rfl) hHeld (fun _ _ _ h => h) ?_ ?_
      rotate_left
      ·intro w' hSw; (try dsimp only at hSw); subst hSw; go_simp <;> with_reducible rfl
      simp only [Act.put, List.setIfInBounds_toArray, List.set_cons_zero, List.set_cons_succ]
      refine heldTake 18 (some 34) (v := ?_) rfl rfl (by kernel_rfl) (by kernel_rfl) (by kernel_rfl) (by rfl) hHeld (fun _ _ _ h => h) ?_ ?_
      rotate_left
      ·intro w' hSw; (try dsimp only at hSw); subst hSw; go_simp <;> with_reducible rfl
      simp only [Act.put, List.setIfInBounds_toArray, List.set_cons_zero, List.set_cons_succ]
      refine heldTake 19 (some 35) (v := ?_) rfl rfl (by kernel_rfl) (by kernel_rfl) (by kernel_rfl) (by rfl) hHeld (fun _ _ _ h => h) ?_ ?_
      rotate_left
      ·intro w' hSw; (try dsimp only at hSw); subst hSw; go_simp <;> with_reducible rfl
      simp only [Act.put, List.setIfInBounds_toArray, List.set_cons_zero, List.set_cons_succ]
      refine heldTake 20 (some 36) (v := ?_) rfl rfl (by kernel_rfl) (by kernel_rfl) (by kernel_rfl) (by rfl) hHeld (fun _ _ _ h => h) ?_ ?_
      rotate_left
      ·intro w' hSw; (try dsimp only at hSw); subst hSw; go_simp <;> with_reducible rfl
      simp only [Act.put, List.setIfInBounds_toArray, List.set_cons_zero, List.set_cons_succ]
      refine heldTake 21 (some 37) (v := ?_) rfl rfl (by kernel_rfl) (by kernel_rfl) (by kernel_rfl) (by rfl) hHeld (fun _ _ _ h => h) ?_ ?_
      rotate_left
      ·intro w' hSw; (try dsimp only at hSw); subst hSw; go_simp <;> with_reducible rfl
      simp only [Act.put, List.setIfInBounds_toArray, List.set_cons_zero, List.set_cons_succ]
      refine heldTake 22 (some 38) (v := ?_) rfl rfl (by kernel_rfl) (by kernel_rfl) (by kernel_rfl) (by rfl) hHeld (fun _ _ _ h => h) ?_ ?_
      rotate_left
      ·intro w' hSw; (try dsimp only at hSw); subst hSw; go_simp <;> with_reducible rfl
      simp only [Act.put, List.setIfInBounds_toArray, List.set_cons_zero, List.set_cons_succ]
      refine heldTake 23 (some 39) (v := ?_) rfl rfl (by kernel_rfl) (by kernel_rfl) (by kernel_rfl) (by rfl) hHeld (fun _ _ _ h => h) ?_ ?_
      rotate_left
      ·intro w' hSw; (try dsimp only at hSw); subst hSw; go_simp <;> with_reducible rfl
      simp only [Act.put, List.setIfInBounds_toArray, List.set_cons_zero, List.set_cons_succ]
      refine heldTake 24 (some 40) (v := ?_) rfl rfl (by kernel_rfl) (by kernel_rfl) (by kernel_rfl) (by rfl) hHeld (fun _ _ _ h => h) ?_ ?_
      rotate_left
      ·intro w' hSw; (try dsimp only at hSw); subst hSw; go_simp <;> with_reducible rfl
      simp only [Act.put, List.setIfInBounds_toArray, List.set_cons_zero, List.set_cons_succ]
      refine heldTake 25 (some 41) (v := ?_) rfl rfl (by kernel_rfl) (by kernel_rfl) (by kernel_rfl) (by rfl) hHeld (fun _ _ _ h => h) ?_ ?_
      rotate_left
      ·intro w' hSw; (try dsimp only at hSw); subst hSw; go_simp <;> with_reducible rfl
      simp only [Act.put, List.setIfInBounds_toArray, List.set_cons_zero, List.set_cons_succ]
      refine wpAnyH_done (by kernel_rfl) ?_ _
      refine NoPanic.normal ?_
      go_wp2_with fail
      go_roundw
      case rel => exact ⟨k + 1, by omega, by go_num, HS2.out, hbw.drew⟩
      case measure => simp [intOf]; omega
     ·have hn2 := str_ne he
      have hn3 : (!(strB xa').toList == (strB xb').toList) = true := by rw [hn2]; rfl
      have HF := Lib.hid (HNE.out (fun h => he h.2))
      clear HNE HST he
      go_wp2_with fail
      refine wp_region_noPanic ?_
      refine wp_region_held_drew (S := (fun w' => w' = wr.drew)) (by kernel_rfl) ?_ (fun hHeld => ?_)
      ·rfl
      refine heldTake 0 (some 16) (v := ?_) rfl rfl (by kernel_rfl) (by kernel_rfl) (by kernel_rfl) (by rfl) hHeld (fun _ _ _ h => h) ?_ ?_
      rotate_left
      ·intro w' hSw; (try dsimp only at hSw); subst hSw; go_simp <;> with_reducible rfl
      simp only [Act.put, List.setIfInBounds_toArray, List.set_cons_zero, List.set_cons_succ]
      refine heldTake 1 (some 17) (v := ?_) rfl rfl (by kernel_rfl) (by kernel_rfl) (by kernel_rfl) (by rfl) hHeld (fun _ _ _ h => h) ?_ ?_
      rotate_left
      ·intro w' hSw; (try dsimp only at hSw); subst hSw; go_simp <;> with_reducible rfl
      simp only [Act.put, List.setIfInBounds_toArray, List.set_cons_zero, List.set_cons_succ]
      refine heldTake 2 (some 18) (v := ?_) rfl rfl (by kernel_rfl) (by kernel_rfl) (by kernel_rfl) (by rfl) hHeld (fun _ _ _ h => h) ?_ ?_
      rotate_left
      ·intro w' hSw; (try dsimp only at hSw); subst hSw; go_simp <;> with_reducible rfl
      simp only [Act.put, List.setIfInBounds_toArray, List.set_cons_zero, List.set_cons_succ]
      refine heldTake 3 (some 19) (v := ?_) rfl rfl (by kernel_rfl) (by kernel_rfl) (by kernel_rfl) (by rfl) hHeld (fun _ _ _ h => h) ?_ ?_
      rotate_left
      ·intro w' hSw; (try dsimp only at hSw); subst hSw; go_simp <;> with_reducible rfl
      simp only [Act.put, List.setIfInBounds_toArray, List.set_cons_zero, List.set_cons_succ]
      refine heldTake 4 (some 20) (v := ?_) rfl rfl (by kernel_rfl) (by kernel_rfl) (by kernel_rfl) (by rfl) hHeld (fun _ _ _ h => h) ?_ ?_
      rotate_left
      ·intro w' hSw; (try dsimp only at hSw); subst hSw; go_simp <;> with_reducible rfl
      simp only [Act.put, List.setIfInBounds_toArray, List.set_cons_zero, List.set_cons_succ]
      refine heldTake 5 (some 21) (v := ?_) rfl rfl (by kernel_rfl) (by kernel_rfl) (by kernel_rfl) (by rfl) hHeld (fun _ _ _ h => h) ?_ ?_
      rotate_left
      ·intro w' hSw; (try dsimp only at hSw); subst hSw; go_simp <;> with_reducible rfl
      simp only [Act.put, List.setIfInBounds_toArray, List.set_cons_zero, List.set_cons_succ]
      refine heldTake 6 (some 22) (v := ?_) rfl rfl (by kernel_rfl) (by kernel_rfl) (by kernel_rfl) (by rfl) hHeld (fun _ _ _ h => h) ?_ ?_
      rotate_left
      ·intro w' hSw; (try dsimp only at hSw); subst hSw; go_simp <;> with_reducible rfl
      simp only [Act.put, List.setIfInBounds_toArray, List.set_cons_zero, List.set_cons_succ]
      refine heldTake 7 (some 23) (v := ?_) rfl rfl (by kernel_rfl) (by kernel_rfl) (by kernel_rfl) (by rfl) hHeld (fun _ _ _ h => h) ?_ ?_
      rotate_left
      ·intro w' hSw; (try dsimp only at hSw); subst hSw; go_simp <;> with_reducible rfl
      simp only [Act.put, List.setIfInBounds_toArray, List.set_cons_zero, List.set_cons_succ]
      refine heldTake 8 (some 24) (v := ?_) rfl rfl (by kernel_rfl) (by kernel_rfl) (by kernel_rfl) (by rfl) hHeld (fun _ _ _ h => h) ?_ ?_
      rotate_left
      ·intro w' hSw; (try dsimp only at hSw); subst hSw; go_simp <;> with_reducible rfl
      simp only [Act.put, List.setIfInBounds_toArray, List.set_cons_zero, List.set_cons_succ]
      refine heldTake 9 (some 25) (v := ?_) rfl rfl (by kernel_rfl) (by kernel_rfl) (by kernel_rfl) (by rfl) hHeld (fun _ _ _ h => h) ?_ ?_
      rotate_left
      ·intro w' hSw; (try dsimp only at hSw); subst hSw; go_simp <;> with_reducible rfl
      simp only [Act.put, List.setIfInBounds_toArray, List.set_cons_zero, List.set_cons_succ]
      refine heldTake 10 (some 26) (v := ?_) rfl rfl (by kernel_rfl) (by kernel_rfl) (by kernel_rfl) (by rfl) hHeld (fun _ _ _ h => h) ?_ ?_
      rotate_left
      ·intro w' hSw; (try dsimp only at hSw); subst hSw; go_simp <;> with_reducible rfl
      simp only [Act.put, List.setIfInBounds_toArray, List.set_cons_zero, List.set_cons_succ]
      refine heldTake 11 (some 27) (v := ?_) rfl rfl (by kernel_rfl) (by kernel_rfl) (by kernel_rfl) (by rfl) hHeld (fun _ _ _ h => h) ?_ ?_
      rotate_left
      ·intro w' hSw; (try dsimp only at hSw); subst hSw; go_simp <;> with_reducible rfl
      simp only [Act.put, List.setIfInBounds_toArray, List.set_cons_zero, List.set_cons_succ]
      refine heldTake 12 (some 28) (v := ?_) rfl rfl (by kernel_rfl) (by kernel_rfl) (by kernel_rfl) (by rfl) hHeld (fun _ _ _ h => h) ?_ ?_
      rotate_left
      ·intro w' hSw; (try dsimp only at hSw); subst hSw; go_simp <;> with_reducible rfl
      simp only [Act.put, List.setIfInBounds_toArray, List.set_cons_zero, List.set_cons_succ]
      refine heldTake 13 (some 29) (v := ?_) rfl rfl (by kernel_rfl) (by kernel_rfl) (by kernel_rfl) (by rfl) hHeld (fun _ _ _ h => h) ?_ ?_
      rotate_left
      ·intro w' hSw; (try dsimp only at hSw); subst hSw; go_simp <;> with_reducible rfl
      simp only [Act.put, List.setIfInBounds_toArray, List.set_cons_zero, List.set_cons_succ]
      refine heldTake 14 (some 30) (v := ?_) rfl rfl (by kernel_rfl) (by kernel_rfl) (by kernel_rfl) (by rfl) hHeld (fun _ _ _ h => h) ?_ ?_
      rotate_left
      ·intro w' hSw; (try dsimp only at hSw); subst hSw; go_simp <;> with_reducible rfl
      simp only [Act.put, List.setIfInBounds_toArray, List.set_cons_zero, List.set_cons_succ]
      refine heldTake 15 (some 31) (v := ?_) rfl rfl (by kernel_rfl) (by kernel_rfl) (by kernel_rfl) (by rfl) hHeld (fun _ _ _ h => h) ?_ ?_
      rotate_left
      ·intro w' hSw; (try dsimp only at hSw); subst hSw; go_simp <;> with_reducible rfl
      simp only [Act.put, List.setIfInBounds_toArray, List.set_cons_zero, List.set_cons_succ]
      refine heldTake 16 (some 32) (v := ?_) rfl rfl (by kernel_rfl) (by kernel_rfl) (by kernel_rfl) (by rfl) hHeld (fun _ _ _ h => h) ?_ ?_
      rotate_left
      ·intro w' hSw; (try dsimp only at hSw); subst hSw; go_simp <;> with_reducible rfl
      simp only [Act.put, List.setIfInBounds_toArray, List.set_cons_zero, List.set_cons_succ]
      refine heldTake 17 (some 33) (v := ?_) rfl rfl (by kernel_rfl) (by kernel_rfl) (by kernel_rfl) (by rfl) hHeld (fun _ _ _ h => h) ?_ ?_
      rotate_left
      ·intro w' hSw; (try dsimp only at hSw); subst hSw; go_simp <;> with_reducible rfl
      simp only [Act.put, List.setIfInBounds_toArray, List.set_cons_zero, List.set_cons_succ]
      refine heldTake 18 (some 34) (v := ?_) rfl rfl (by kernel_rfl) (by kernel_rfl) (by kernel_rfl) (by rfl) hHeld (fun _ _ _ h => h) ?_ ?_
      rotate_left
      ·intro w' hSw; (try dsimp only at hSw); subst hSw; go_simp <;> with_reducible rfl
      simp only [Act.put, List.setIfInBounds_toArray, List.set_cons_zero, List.set_cons_succ]
      refine heldTake 19 (some 35) (v := ?_) rfl rfl (by kernel_rfl) (by kernel_rfl) (by kernel_rfl) (by rfl) hHeld (fun _ _ _ h => h) ?_ ?_
      rotate_left
      ·intro w' hSw; (try dsimp only at hSw); subst hSw; go_simp <;> with_reducible rfl
      simp only [Act.put, List.setIfInBounds_toArray, List.set_cons_zero, List.set_cons_succ]
      refine heldTake 20 (some 36) (v := ?_) rfl rfl (by kernel_rfl) (by kernel_rfl) (by kernel_rfl) (by rfl) hHeld (fun _ _ _ h => h) ?_ ?_
      rotate_left
      ·intro w' hSw; (try dsimp only at hSw); subst hSw; go_simp <;> with_reducible rfl
      simp only [Act.put, List.setIfInBounds_toArray, List.set_cons_zero, List.set_cons_succ]
      refine heldTake 21 (some 37) (v := ?_) rfl rfl (by kernel_rfl) (by kernel_rfl) (by kernel_rfl) (by rfl) hHeld (fun _ _ _ h => h) ?_ ?_
      rotate_left
      ·intro w' hSw; (try dsimp only at hSw); subst hSw; go_simp <;> with_reducible rfl
      simp only [Act.put, List.setIfInBounds_toArray, List.set_cons_zero, List.set_cons_succ]
      refine heldTake 22 (some 38) (v := ?_) rfl rfl (by kernel_rfl) (by kernel_rfl) (by kernel_rfl) (by rfl) hHeld (fun _ _ _ h => h) ?_ ?_
      rotate_left
      ·intro w' hSw; (try dsimp only at hSw); subst hSw; go_simp <;> with_reducible rfl
      simp only [Act.put, List.setIfInBounds_toArray, List.set_cons_zero, List.set_cons_succ]
      refine heldTake 23 (some 39) (v := ?_) rfl rfl (by kernel_rfl) (by kernel_rfl) (by kernel_rfl) (by rfl) hHeld (fun _ _ _ h => h) ?_ ?_
      rotate_left
      ·intro w' hSw; (try dsimp only at hSw); subst hSw; go_simp <;> with_reducible rfl
      simp only [Act.put, List.setIfInBounds_toArray, List.set_cons_zero, List.set_cons_succ]
      refine heldTake 24 (some 40) (v := ?_) rfl rfl (by kernel_rfl) (by kernel_rfl) (by kernel_rfl) (by rfl) hHeld (fun _ _ _ h => h) ?_ ?_
      rotate_left
      ·intro w' hSw; (try dsimp only at hSw); subst hSw; go_simp <;> with_reducible rfl
      simp only [Act.put, List.setIfInBounds_toArray, List.set_cons_zero, List.set_cons_succ]
      refine heldTake 25 (some 41) (v := ?_) rfl rfl (by kernel_rfl) (by kernel_rfl) (by kernel_rfl) (by rfl) hHeld (fun _ _ _ h => h) ?_ ?_
      rotate_left
      ·intro w' hSw; (try dsimp only at hSw); subst hSw; go_simp <;> with_reducible rfl
      simp only [Act.put, List.setIfInBounds_toArray, List.set_cons_zero, List.set_cons_succ]
      refine wpAnyH_done (by kernel_rfl) ?_ _
      refine NoPanic.normal ?_
      go_wp2_with fail
      go_ret
      exact ⟨by rw [← HR.out, HF.out]; rfl, hbw.drew⟩
    ·have hn2 := str_ne hen
     have hn3 : (!(strB na).toList == (strB nb).toList) = true := by rw [hn2]; rfl
     have HF := Lib.hid (HNE.out (fun h => hen h.1))
     clear HNE HST hen
     go_wp2_with fail
     refine wp_region_noPanic ?_
     refine wp_region_held_drew (S := (fun w' => w' = wr.drew)) (by kernel_rfl) ?_ (fun hHeld => ?_)
     ·rfl
     refine heldTake 0 (some 16) (v := ?_) rfl rfl (by kernel_rfl) (by kernel_rfl) (by kernel_rfl) (by rfl) hHeld (fun _ _ _ h => h) ?_ ?_
     rotate_left
     ·intro w' hSw; (try dsimp only at hSw); subst hSw; go_simp <;> with_reducible rfl
     simp only [Act.put, List.setIfInBounds_toArray, List.set_cons_zero, List.set_cons_succ]
     refine heldTake 1 (some 17) (v := ?_) rfl rfl (by kernel_rfl) (by kernel_rfl) (by kernel_rfl) (by rfl) hHeld (fun _ _ _ h => h) ?_ ?_
     rotate_left
     ·intro w' hSw; (try dsimp only at hSw); subst hSw; go_simp <;> with_reducible rfl
     simp only [Act.put, List.setIfInBounds_toArray, List.set_cons_zero, List.set_cons_succ]
     refine heldTake 2 (some 18) (v := ?_) rfl rfl (by kernel_rfl) (by kernel_rfl) (by kernel_rfl) (by rfl) hHeld (fun _ _ _ h => h) ?_ ?_
     rotate_left
     ·intro w' hSw; (try dsimp only at hSw); subst hSw; go_simp <;> with_reducible rfl
     simp only [Act.put, List.setIfInBounds_toArray, List.set_cons_zero, List.set_cons_succ]
     refine heldTake 3 (some 19) (v := ?_) rfl rfl (by kernel_rfl) (by kernel_rfl) (by kernel_rfl) (by rfl) hHeld (fun _ _ _ h => h) ?_ ?_
     rotate_left
     ·intro w' hSw; (try dsimp only at hSw); subst hSw; go_simp <;> with_reducible rfl
     simp only [Act.put, List.setIfInBounds_toArray, List.set_cons_zero, List.set_cons_succ]
     refine heldTake 4 (some 20) (v := ?_) rfl rfl (by kernel_rfl) (by kernel_rfl) (by kernel_rfl) (by rfl) hHeld (fun _ _ _ h => h) ?_ ?_
     rotate_left
     ·intro w' hSw; (try dsimp only at hSw); subst hSw; go_simp <;> with_reducible rfl
     simp only [Act.put, List.setIfInBounds_toArray, List.set_cons_zero, List.set_cons_succ]
     refine heldTake 5 (some 21) (v := ?_) rfl rfl (by kernel_rfl) (by kernel_rfl) (by kernel_rfl) (by rfl) hHeld (fun _ _ _ h => h) ?_ ?_
     rotate_left
     ·intro w' hSw; (try dsimp only at hSw); subst hSw; go_simp <;> with_reducible rfl
     simp only [Act.put, List.setIfInBounds_toArray, List.set_cons_zero, List.set_cons_succ]
     refine heldTake 6 (some 22) (v := ?_) rfl rfl (by kernel_rfl) (by kernel_rfl) (by kernel_rfl) (by rfl) hHeld (fun _ _ _ h => h) ?_ ?_
     rotate_left
     ·intro w' hSw; (try dsimp only at hSw); subst hSw; go_simp <;> with_reducible rfl
     simp only [Act.put, List.setIfInBounds_toArray, List.set_cons_zero, List.set_cons_succ]
     refine heldTake 7 (some 23) (v := ?_) rfl rfl (by kernel_rfl) (by kernel_rfl) (by kernel_rfl) (by rfl) hHeld (fun _ _ _ h => h) ?_ ?_
     rotate_left
     ·intro w' hSw; (try dsimp only at hSw); subst hSw; go_simp <;> with_reducible rfl
     simp only [Act.put, List.setIfInBounds_toArray, List.set_cons_zero, List.set_cons_succ]
     refine heldTake 8 (some 24) (v := ?_) rfl rfl (by kernel_rfl) (by kernel_rfl) (by kernel_rfl) (by rfl) hHeld (fun _ _ _ h => h) ?_ ?_
     rotate_left
     ·intro w' hSw; (try dsimp only at hSw); subst hSw; go_simp <;> with_reducible rfl
     simp only [Act.put, List.setIfInBounds_toArray, List.set_cons_zero, List.set_cons_succ]
     refine heldTake 9 (some 25) (v := ?_) rfl rfl (by kernel_rfl) (by kernel_rfl) (by kernel_rfl) (by rfl) hHeld (fun _ _ _ h => h) ?_ ?_
     rotate_left
     ·intro w' hSw; (try dsimp only at hSw); subst hSw; go_simp <;> with_reducible rfl
     simp only [Act.put, List.setIfInBounds_toArray, List.set_cons_zero, List.set_cons_succ]
     refine heldTake 10 (some 26) (v := ?_) rfl rfl (by kernel_rfl) (by kernel_rfl) (by kernel_rfl) (by rfl) hHeld (fun _ _ _ h => h) ?_ ?_
     rotate_left
     ·intro w' hSw; (try dsimp only at hSw); subst hSw; go_simp <;> with_reducible rfl
     simp only [Act.put, List.setIfInBounds_toArray, List.set_cons_zero, List.set_cons_succ]
     refine heldTake 11 (some 27) (v := ?_) rfl rfl (by kernel_rfl) (by kernel_rfl) (by kernel_rfl) (by rfl) hHeld (fun _ _ _ h => h) ?_ ?_
     rotate_left
     ·intro w' hSw; (try dsimp only at hSw); subst hSw; go_simp <;> with_reducible rfl
     simp only [Act.put, List.setIfInBounds_toArray, List.set_cons_zero, List.set_cons_succ]
     refine heldSkip 12 (some 28) rfl rfl (by kernel_rfl) (by kernel_rfl) (by kernel_rfl) (by rfl) hHeld (fun _ _ _ h => h) ?_
     simp only [Act.put, List.setIfInBounds_toArray, List.set_cons_zero, List.set_cons_succ]
     refine heldSkip 13 (some 29) rfl rfl (by kernel_rfl) (by kernel_rfl) (by kernel_rfl) (by rfl) hHeld (fun _ _ _ h => h) ?_
     simp only [Act.put, List.setIfInBounds_toArray, List.set_cons_zero, List.set_cons_succ]
     refine heldSkip 14 (some 30) rfl rfl (by kernel_rfl) (by kernel_rfl) (by kernel_rfl) (by rfl) hHeld (fun _ _ _ h => h) ?_
     simp only [Act.put, List.setIfInBounds_toArray, List.set_cons_zero, List.set_cons_succ]
     refine heldSkip 15 (some 31) rfl rfl (by kernel_rfl) (by kernel_rfl) (by kernel_rfl) (by rfl) hHeld (fun _ _ _ h => h) ?_
     simp only [Act.put, List.setIfInBounds_toArray, List.set_cons_zero, List.set_cons_succ]
     refine heldSkip 16 (some 32) rfl rfl (by kernel_rfl) (by kernel_rfl) (by kernel_rfl) (by rfl) hHeld (fun _ _ _ h => h) ?_
     simp only [Act.put, List.setIfInBounds_toArray, List.set_cons_zero, List.set_cons_succ]
     refine heldSkip 17 (some 33) rfl rfl (by kernel_rfl) (by kernel_rfl) (by kernel_rfl) (by rfl) hHeld (fun _ _ _ h => h) ?_
     simp only [Act.put, List.setIfInBounds_toArray, List.set_cons_zero, List.set_cons_succ]
     refine heldSkip 18 (some 34) rfl rfl (by kernel_rfl) (by kernel_rfl) (by kernel_rfl) (by rfl) hHeld (fun _ _ _ h => h) ?_
     simp only [Act.put, List.setIfInBounds_toArray, List.set_cons_zero, List.set_cons_succ]
     refine heldSkip 19 (some 35) rfl rfl (by kernel_rfl) (by kernel_rfl) (by kernel_rfl) (by rfl) hHeld (fun _ _ _ h => h) ?_
     simp only [Act.put, List.setIfInBounds_toArray, List.set_cons_zero, List.set_cons_succ]
     refine heldSkip 20 (some 36) rfl rfl (by kernel_rfl) (by kernel_rfl) (by kernel_rfl) (by rfl) hHeld (fun _ _ _ h => h) ?_
     simp only [Act.put, List.setIfInBounds_toArray, List.set_cons_zero, List.set_cons_succ]
     refine heldSkip 21 (some 37) rfl rfl (by kernel_rfl) (by kernel_rfl) (by kernel_rfl) (by rfl) hHeld (fun _ _ _ h => h) ?_
     simp only [Act.put, List.setIfInBounds_toArray, List.set_cons_zero, List.set_cons_succ]
     refine heldSkip 22 (some 38) rfl rfl (by kernel_rfl) (by kernel_rfl) (by kernel_rfl) (by rfl) hHeld (fun _ _ _ h => h) ?_
     simp only [Act.put, List.setIfInBounds_toArray, List.set_cons_zero, List.set_cons_succ]
     refine heldSkip 23 (some 39) rfl rfl (by kernel_rfl) (by kernel_rfl) (by kernel_rfl) (by rfl) hHeld (fun _ _ _ h => h) ?_
     simp only [Act.put, List.setIfInBounds_toArray, List.set_cons_zero, List.set_cons_succ]
     refine heldSkip 24 (some 40) rfl rfl (by kernel_rfl) (by kernel_rfl) (by kernel_rfl) (by rfl) hHeld (fun _ _ _ h => h) ?_
     simp only [Act.put, List.setIfInBounds_toArray, List.set_cons_zero, List.set_cons_succ]
     refine heldTake 25 (some 41) (v := ?_) rfl rfl (by kernel_rfl) (by kernel_rfl) (by kernel_rfl) (by rfl) hHeld (fun _ _ _ h => h) ?_ ?_
     rotate_left
     ·intro w' hSw; (try dsimp only at hSw); subst hSw; go_simp <;> with_reducible rfl
     simp only [Act.put, List.setIfInBounds_toArray, List.set_cons_zero, List.set_cons_succ]
     refine wpAnyH_done (by kernel_rfl) ?_ _
     refine NoPanic.normal ?_
     go_wp2_with fail
     go_ret
     exact ⟨by rw [← HR.out, HF.out]; rfl, hbw.drew⟩
   ·have hke : k = la.length := by omega
    subst hke
    have HF := Lib.hid (fl_eq HL.out HT.out)
    go_wp2_with fail
    go_ret
    exact ⟨by rw [← HR.out, HF.out]; rfl, hbw⟩
 ·have q1 : ((la.length : Int) != (lb.length : Int)) = true := by simp; omega
  have HF : Hid (decide (la = lb) = false) := Lib.hid (by rw [decide_eq_false_iff_not]; rintro rfl; exact hl rfl)
  clear hl
  go_enter Try.func22, Try.ntmps22
  go_wp2_with fail
  go_ret
  exact ⟨by rw [← HR.out, HF.out]; rfl, Below.refl _ _⟩
end
section
set_option maxRecDepth 100000
open Go.RowKit Go.Lib Go.IntWalk
/-- the files of a disk that is loaded; none if it cannot be -/
def loadF : FL → FM → Option FM
 | [], fm => some fm
 |(k, l) :: r, fm => if (fm k).isSome || !wordF k then none else loadF r (updG fm k (some l))
theorem loadF_no {fl : FL} {k : Nat} {q : List UInt8 × List UInt8} (h : fl[k]? = some q) {fm : FM} (h2 : (fm q.1).isSome = true ∨ wordF q.1 = false) : loadF (fl.drop k) fm = none := by
 obtain ⟨hk, e⟩ := List.getElem?_eq_some_iff.1 h
 rw [List.drop_eq_getElem_cons hk, e]
 unfold loadF
 rw [if_pos (by rcases h2 with h | h <;> simp [h])]
theorem loadF_go {fl : FL} {k : Nat} {q : List UInt8 × List UInt8} (h : fl[k]? = some q) {fm : FM} (h2 : (fm q.1).isSome = false) (h3 : wordF q.1 = true) : loadF (fl.drop k) fm = loadF (fl.drop (k + 1)) (updG fm q.1 (some q.2)) := by
 obtain ⟨hk, e⟩ := List.getElem?_eq_some_iff.1 h
 rw [List.drop_eq_getElem_cons hk, e]
 conv => lhs; unfold loadF
 rw [if_neg (by simp [h2, h3])]
/-- the parts of a disk that is being loaded -/
def LoadAt [Inhabited Nb] (B : Nat) (w : World) (D M n : Nat) (fm : FM) : Prop :=
 ∃ g, w.heap[D]? = some (.cells #[.map (some M), .slice none 0 0] 47 (0, 0)) ∧ MapIs w M n g ∧ GRd B w g fm
def flsum (fl : FL) : Nat := (fl.map fun p => p.2.length).sum
theorem flsum_mem {fl : FL} {p : List UInt8 × List UInt8} (h : p ∈ fl) : p.2.length ≤ flsum fl := by
 induction fl with
 | nil => cases h
 | cons x r ih =>
  simp only [flsum, List.map_cons, List.sum_cons] at *
  rcases List.mem_cons.1 h with rfl | h
  ·omega
  ·have := ih h; omega
theorem LoadAt.disk {_ : Inhabited Nb} {B Z : Nat} {w : World} {D M n : Nat} {fm : FM} (h : LoadAt B w D M n fm) (hD : B ≤ D) (hM : B ≤ M) (hn : n ≤ Z) (hz : ∀ key l, fm key = some l → l.length ≤ Z) : DiskAt B Z w D none fm [] := by
 obtain ⟨g, h1, h2, h3⟩ := h
 exact ⟨M, n, g, .slice none 0 0, h1, hD, hM, h2, by simpa using hn, h3, ⟨[], rfl, World.ownsRow_nil w _ _ _, fun p hp => by cases hp⟩, ⟨fun key l hl => by have := hz key l hl; simpa [dsum] using this, by simp [dsum], fun o ho => by cases ho⟩, rfl⟩
def LoadRel [Inhabited Nb] (B : Nat) (fl : FL) (D M : Nat) (res : Option FM) (w0 : World) (i : Value) (w : World) : Prop :=
 ∃ (k : Nat) (fm : FM), k ≤ fl.length ∧ i = .int .i64 (k : Int) ∧ loadF (fl.drop k) fm = res ∧ LoadAt B w D M k fm ∧ (∀ key l, fm key = some l → l.length ≤ flsum fl) ∧ Below w0.heap.size w0 w
def LoadOut [Inhabited Nb] (B Z : Nat) (res : Option FM) (w0 : World) (e : Ending) (w : World) : Prop :=
 Below w0.heap.size w0 w ∧ match res with
 | none => e = .returned (.pointer none)
 | some fm => ∃ D, e = .returned (.pointer (some ⟨D, 0, none⟩)) ∧ w0.heap.size ≤ D ∧ DiskAt B Z w D none fm []
set_option maxRecDepth 100000 in
set_option maxHeartbeats 4000000 in
theorem dload_any [Inhabited Nb] (B : Nat) (v : Value) (fl : FL) (w : World) (hB : B ≤ w.heap.size) (hv : FlsRd B w v fl) (hl1 : flsum fl ≤ 1099511627776) (hl2 : fl.length ≤ 1099511627776) (hnl : ∀ p ∈ fl, p.1.length ≤ maxLen) :
  Calls Try.prog 4 #[v] w (LoadOut B (flsum fl + fl.length) (loadF fl fun _ => none) w) := by
 obtain ⟨A, c, rfl, a1, a2, a3⟩ := hv.open_
 unfold maxLen at a2
 clear a3
 have HNL := Lib.hid hnl
 clear hnl
 generalize hres : loadF fl (fun _ => none) = res
 have HR := Lib.hid hres
 clear hres
 go_enter Try.func4, Try.ntmps4
 go_wp2_with fail
 (with_reducible refine (dnew_any w.heap.size w (Nat.le_refl _)).mono ?_)
 rintro e w1 ⟨D, rfl, hDl, hD1, hb1⟩
 obtain ⟨M, n, g, pv, hb, hBD, hBM, hM, hn, hG, ⟨ps, hps, hown, _⟩, hZs, hpv⟩ := hD1
 have hps0 : ps = [] := by simpa using hps
 subst hps0
 have hpn : pv = .slice none 0 0 := by
  rcases hown.2 with ⟨rfl, _⟩ | ⟨g, cap, cur, rfl, _⟩
  ·rfl
  ·cases hpv
 subst hpn
 have hn0 : n = 0 := by simpa using hn
 subst hn0
 have hL1 : LoadAt B w1 D M 0 (fun _ => none) := ⟨g, hb, hM, fun key => by rcases hG key with h | ⟨v, l, h1, h2, h3⟩; exact .inl h; cases h2⟩
 clear hb hM hG hown hps hpv hZs hn
 go_wp2_with fail
 go_loopw [11] (fun i wr => LoadRel B fl D M res w i wr) (fun i _ => fl.length - (intOf i).toNat)
 case atStart => exact ⟨0, _, Nat.zero_le _, rfl, HR.out, hL1, fun key l h => by (cases h), hb1⟩
 case round =>
  obtain ⟨k, fm, hk, rfl, hres, hLr, hfz, hbw⟩ := hrel
  clear HR
  have HRES := Lib.hid hres
  have HFZ := Lib.hid hfz
  clear hres hfz
  have hBr : B ≤ wr.heap.size := by have := hbw.size; omega
  by_cases hlt : k < fl.length
  ·obtain ⟨ba, oa, ua, rfl, ga, ga1, da, _⟩ := FlsRd.elem (hv.below hB hbw) (List.getElem?_eq_getElem hlt)
   obtain ⟨Xa, xa, rfl, _, _, _⟩ := Rd.open_ da
   have hqm : fl[k] ∈ fl := List.getElem_mem hlt
   have hnm := HNL.out _ hqm
   have hdl : fl[k].2.length ≤ 1099511627776 := by have := flsum_mem hqm; omega
   have hdf := flsum_mem hqm
   have HNO := Lib.hid (@loadF_no fl k fl[k] (List.getElem?_eq_getElem hlt) fm)
   have HGO := Lib.hid (@loadF_go fl k fl[k] (List.getElem?_eq_getElem hlt) fm)
   generalize fl[k].1 = nm at *
   generalize fl[k].2 = data at *
   obtain ⟨g2, hbD, hMr, hGr⟩ := hLr
   have HSO := Lib.hid (hGr.some_eq nm)
   have hDM : ¬ D = M := by
    rintro rfl
    obtain ⟨es, clock, hm⟩ := hMr.obj
    rw [hbD] at hm; cases hm
   have hMlt := hMr.lt
   have hDlt : D < wr.heap.size := (Array.getElem?_eq_some_iff.1 hbD).1
   have hFM : ¬ wr.heap.size = M := by omega
   have hbF : Below wr.heap.size wr (wr.alloc (.cells #[.string (strB nm), .slice Xa data.length xa] 43)) := Below.of_alloc _
   have kF := box_cell wr #[.string (strB nm), .slice Xa data.length xa] 43 0 rfl
   have kG := box_cell wr #[.string (strB nm), .slice Xa data.length xa] 43 1 rfl
   have kD : (wr.alloc (.cells #[.string (strB nm), .slice Xa data.length xa] 43)).cell? ⟨D, 0, none⟩ = some (.map (some M)) := (World.cell?_of_block (hbF.block D hDlt)).trans (cell_of_row wr D 0 _ _ _ hbD)
   have hlk := (hMr.alloc (.cells #[.string (strB nm), .slice Xa data.length xa] 43)).look_ok nm hnm
   have hlk2 : (Instr.lookup 44 (.map (some M)) (.string (strB nm)) true).run Try.prog (wr.alloc (.cells #[.string (strB nm), .slice Xa data.length xa] 43)).drew = .ok (.tuple #[(g2 nm).getD (.slice none 0 0), .bool (g2 nm).isSome]) (wr.alloc (.cells #[.string (strB nm), .slice Xa data.length xa] 43)).drew :=
    (MapIs.block (w' := (wr.alloc (.cells #[.string (strB nm), .slice Xa data.length xa] 43)).drew) (hMr.alloc (.cells #[.string (strB nm), .slice Xa data.length xa] 43)) rfl).look_ok nm hnm
   clear hlk
   have hbwF : Below w.heap.size w (wr.alloc (.cells #[.string (strB nm), .slice Xa data.length xa] 43)).drew := (hbw.alloc hbw.size _).drew
   go_wp2_with fail
   refine wp_region_noPanic ?_
   refine wp_region_held_drew (S := (fun w' => w' = (wr.alloc (.cells #[.string (strB nm), .slice Xa data.length xa] 43)).drew)) (by kernel_rfl) ?_ (fun hHeld => ?_)
   ·rfl
   refine heldTake 0 (some 16) (v := ?_) rfl rfl (by kernel_rfl) (by kernel_rfl) (by kernel_rfl) (by rfl) hHeld (fun _ _ _ h => h) ?_ ?_
   rotate_left
   ·intro w' hSw; (try dsimp only at hSw); subst hSw; go_simp <;> with_reducible rfl
   simp only [Act.put, List.setIfInBounds_toArray, List.set_cons_zero, List.set_cons_succ]
   refine heldTake 1 (some 17) (v := ?_) rfl rfl (by kernel_rfl) (by kernel_rfl) (by kernel_rfl) (by rfl) hHeld (fun _ _ _ h => h) ?_ ?_
   rotate_left
   ·intro w' hSw; (try dsimp only at hSw); subst hSw; go_simp <;> with_reducible rfl
   simp only [Act.put, List.setIfInBounds_toArray, List.set_cons_zero, List.set_cons_succ]
   refine heldTake 2 (some 18) (v := ?_) rfl rfl (by kernel_rfl) (by kernel_rfl) (by kernel_rfl) (by rfl) hHeld (fun _ _ _ h => h) ?_ ?_
   rotate_left
   ·intro w' hSw; (try dsimp only at hSw); subst hSw; go_simp <;> with_reducible rfl
   simp only [Act.put, List.setIfInBounds_toArray, List.set_cons_zero, List.set_cons_succ]
   refine heldTake 3 (some 19) (v := ?_) rfl rfl (by kernel_rfl) (by kernel_rfl) (by kernel_rfl) (by rfl) hHeld (fun _ _ _ h => h) ?_ ?_
   rotate_left
   ·intro w' hSw; (try dsimp only at hSw); subst hSw; go_simp <;> with_reducible rfl
   simp only [Act.put, List.setIfInBounds_toArray, List.set_cons_zero, List.set_cons_succ]
   refine heldTake 4 (some 20) (v := ?_) rfl rfl (by kernel_rfl) (by kernel_rfl) (by kernel_rfl) (by rfl) hHeld (fun _ _ _ h => h) ?_ ?_
   rotate_left
   ·intro w' hSw; (try dsimp only at hSw); subst hSw; go_simp <;> with_reducible rfl
   simp only [Act.put, List.setIfInBounds_toArray, List.set_cons_zero, List.set_cons_succ]
   refine heldTake 5 (some 21) (v := ?_) rfl rfl (by kernel_rfl) (by kernel_rfl) (by kernel_rfl) (by rfl) hHeld (fun _ _ _ h => h) ?_ ?_
   rotate_left
   ·intro w' hSw; (try dsimp only at hSw); subst hSw; go_simp <;> with_reducible rfl
   simp only [Act.put, List.setIfInBounds_toArray, List.set_cons_zero, List.set_cons_succ]
   refine heldTake 6 (some 22) (v := ?_) rfl rfl (by kernel_rfl) (by kernel_rfl) (by kernel_rfl) (by rfl) hHeld (fun _ _ _ h => h) ?_ ?_
   rotate_left
   ·intro w' hSw; (try dsimp only at hSw); subst hSw; go_simp <;> with_reducible rfl
   simp only [Act.put, List.setIfInBounds_toArray, List.set_cons_zero, List.set_cons_succ]
   refine heldTake 7 (some 15) (v := ?_) rfl rfl (by kernel_rfl) (by kernel_rfl) (by kernel_rfl) (by rfl) hHeld (fun _ _ _ h => h) ?_ ?_
   rotate_left
   ·intro w' hSw; (try dsimp only at hSw); subst hSw; go_simp <;> with_reducible rfl
   simp only [Act.put, List.setIfInBounds_toArray, List.set_cons_zero, List.set_cons_succ]
   refine heldTake 8 (some 23) (v := ?_) rfl rfl (by kernel_rfl) (by kernel_rfl) (by kernel_rfl) (by rfl) hHeld (fun _ _ _ h => h) ?_ ?_
   rotate_left
   ·intro w' hSw; (try dsimp only at hSw); subst hSw; go_simp <;> with_reducible rfl
   simp only [Act.put, List.setIfInBounds_toArray, List.set_cons_zero, List.set_cons_succ]
   refine heldTake 9 (some 24) (v := ?_) rfl rfl (by kernel_rfl) (by kernel_rfl) (by kernel_rfl) (by rfl) hHeld (fun _ _ _ h => h) ?_ ?_
   rotate_left
   ·intro w' hSw; (try dsimp only at hSw); subst hSw; go_simp <;> with_reducible rfl
   simp only [Act.put, List.setIfInBounds_toArray, List.set_cons_zero, List.set_cons_succ]
   refine heldTake 10 (some 6) (v := ?_) rfl rfl (by kernel_rfl) (by kernel_rfl) (by kernel_rfl) (by rfl) hHeld (fun _ _ _ h => h) ?_ ?_
   rotate_left
   ·intro w' hSw; (try dsimp only at hSw); subst hSw; go_simp <;> with_reducible rfl
   simp only [Act.put, List.setIfInBounds_toArray, List.set_cons_zero, List.set_cons_succ]
   refine heldTake 11 (some 7) (v := ?_) rfl rfl (by kernel_rfl) (by kernel_rfl) (by kernel_rfl) (by rfl) hHeld (fun _ _ _ h => h) ?_ ?_
   rotate_left
   ·intro w' hSw; (try dsimp only at hSw); subst hSw; go_simp <;> with_reducible rfl
   simp only [Act.put, List.setIfInBounds_toArray, List.set_cons_zero, List.set_cons_succ]
   refine wpAnyH_done (by kernel_rfl) ?_ _
   refine NoPanic.normal ?_
   have hM3' : MapIs (wr.alloc (.cells #[.string (strB nm), .slice Xa data.length xa] 43)).drew M k g2 := hMr.alloc _
   have hG3' : GRd B (wr.alloc (.cells #[.string (strB nm), .slice Xa data.length xa] 43)).drew g2 fm := hGr.alloc hBr _
   have hd3' : DatB B (wr.alloc (.cells #[.string (strB nm), .slice Xa data.length xa] 43)).drew (.slice Xa data.length xa) data := da.alloc hBr _
   have hbD3' : (wr.alloc (.cells #[.string (strB nm), .slice Xa data.length xa] 43)).drew.heap[D]? = some (.cells #[.map (some M), .slice none 0 0] 47 (0, 0)) := (hbF.block D hDlt).trans hbD
   have hFs : wr.heap.size < (wr.alloc (.cells #[.string (strB nm), .slice Xa data.length xa] 43)).drew.heap.size := by simp
   have kF' : (wr.alloc (.cells #[.string (strB nm), .slice Xa data.length xa] 43)).drew.cell? ⟨wr.heap.size, 0, none⟩ = some (.string (strB nm)) := kF
   have kG' : (wr.alloc (.cells #[.string (strB nm), .slice Xa data.length xa] 43)).drew.cell? ⟨wr.heap.size, 1, none⟩ = some (.slice Xa data.length xa) := kG
   have kD' : (wr.alloc (.cells #[.string (strB nm), .slice Xa data.length xa] 43)).drew.cell? ⟨D, 0, none⟩ = some (.map (some M)) := kD
   have hBF : B ≤ (wr.alloc (.cells #[.string (strB nm), .slice Xa data.length xa] 43)).drew.heap.size := by simp; omega
   clear hlk2 hMr hGr da hbD kF kG kD hbF hHeld
   generalize (wr.alloc (.cells #[.string (strB nm), .slice Xa data.length xa] 43)).drew = W at *
   cases hgs : (g2 nm).isSome with
   | true =>
    have hn2 := HNO.out (.inl (by rw [← HSO.out, hgs]))
    have HN2 := Lib.hid hn2
    clear hn2 HNO HGO HSO
    generalize (g2 nm).getD (.slice none 0 0) = gv at *
    go_wp2_with fail
    go_ret
    refine ⟨hbwF, ?_⟩
    rw [← HRES.out, HN2.out]
    exact rfl
   | false =>
    have hfs : (fm nm).isSome = false := by rw [← HSO.out, hgs]
    have HFS := Lib.hid hfs
    clear hfs HSO
    have CW := Lib.hid (dword_any nm W)
    generalize (g2 nm).getD (.slice none 0 0) = gv at *
    generalize hwd : wordF nm = wd at *
    have HWD := Lib.hid hwd
    clear hwd
    go_wp2_with fail
    (with_reducible refine CW.out.mono ?_)
    rintro e w3 ⟨rfl, hb3⟩
    clear CW
    cases wd with
    | false =>
     have hn2 := HNO.out (.inr rfl)
     have HN2 := Lib.hid hn2
     clear hn2 HNO HGO
     go_wp2_with fail
     go_ret
     refine ⟨hbwF.trans (hb3.mono hbwF.size), ?_⟩
     rw [← HRES.out, HN2.out]
     exact rfl
    | true =>
    have hg2 := HGO.out HFS.out rfl
    have HG2 := Lib.hid hg2
    clear hg2 HNO HGO
    have hM3 : MapIs w3 M k g2 := hM3'.block (hb3.block M hM3'.lt)
    have hG3 : GRd B w3 g2 fm := hG3'.below hBF hb3
    have hd3 : DatB B w3 (.slice Xa data.length xa) data := hd3'.below hBF hb3
    have hDlW : D < W.heap.size := (Array.getElem?_eq_some_iff.1 hbD3').1
    have hbD3 := (hb3.block D hDlW).trans hbD3'
    have hk3 : ∀ b o, b < W.heap.size → w3.cell? ⟨b, o, none⟩ = W.cell? ⟨b, o, none⟩ := fun b o hb => World.cell?_of_block (hb3.block b hb)
    have kD := (hk3 D 0 hDlW).trans kD'
    have kF := (hk3 wr.heap.size 0 hFs).trans kF'
    have kG := (hk3 wr.heap.size 1 hFs).trans kG'
    have hs3 := hb3.size
    have hDl3 : D < w3.heap.size := by omega
    have hFl3 : wr.heap.size < w3.heap.size := by omega
    have hB3 : B ≤ w3.heap.size := by omega
    have hbw3 : Below w.heap.size w w3 := hbwF.trans (hb3.mono hbwF.size)
    clear hM3' hG3' hd3' hbD3' kD' kF' kG' hk3 hb3 hbwF
    go_wp2_with fail
    refine wp_region_noPanic ?_
    refine wp_region_held_drew (S := (fun w' => w'.cell? ⟨D, 0, none⟩ = some (.map (some M)) ∧ w'.cell? ⟨wr.heap.size, 0, none⟩ = some (.string (strB nm)) ∧ w'.cell? ⟨wr.heap.size, 1, none⟩ = some (.slice Xa data.length xa))) (by kernel_rfl) ?_ (fun hHeld => ?_)
    ·exact ⟨kD, kF, kG⟩
    refine heldTake 0 (some 32) (v := ?_) rfl rfl (by kernel_rfl) (by kernel_rfl) (by kernel_rfl) (by rfl) hHeld (fun _ _ _ h => h) ?_ ?_
    rotate_left
    ·intro w' hSw; (try dsimp only at hSw); obtain ⟨hs0, hs1, hs2⟩ := hSw; go_simp <;> with_reducible rfl
    simp only [Act.put, List.setIfInBounds_toArray, List.set_cons_zero, List.set_cons_succ]
    refine heldTake 1 (some 33) (v := ?_) rfl rfl (by kernel_rfl) (by kernel_rfl) (by kernel_rfl) (by rfl) hHeld (fun _ _ _ h => h) ?_ ?_
    rotate_left
    ·intro w' hSw; (try dsimp only at hSw); obtain ⟨hs0, hs1, hs2⟩ := hSw; go_simp <;> with_reducible rfl
    simp only [Act.put, List.setIfInBounds_toArray, List.set_cons_zero, List.set_cons_succ]
    refine heldTake 2 (some 34) (v := ?_) rfl rfl (by kernel_rfl) (by kernel_rfl) (by kernel_rfl) (by rfl) hHeld (fun _ _ _ h => h) ?_ ?_
    rotate_left
    ·intro w' hSw; (try dsimp only at hSw); obtain ⟨hs0, hs1, hs2⟩ := hSw; go_simp <;> with_reducible rfl
    simp only [Act.put, List.setIfInBounds_toArray, List.set_cons_zero, List.set_cons_succ]
    refine heldTake 3 (some 35) (v := ?_) rfl rfl (by kernel_rfl) (by kernel_rfl) (by kernel_rfl) (by rfl) hHeld (fun _ _ _ h => h) ?_ ?_
    rotate_left
    ·intro w' hSw; (try dsimp only at hSw); obtain ⟨hs0, hs1, hs2⟩ := hSw; go_simp <;> with_reducible rfl
    simp only [Act.put, List.setIfInBounds_toArray, List.set_cons_zero, List.set_cons_succ]
    refine heldTake 4 (some 36) (v := ?_) rfl rfl (by kernel_rfl) (by kernel_rfl) (by kernel_rfl) (by rfl) hHeld (fun _ _ _ h => h) ?_ ?_
    rotate_left
    ·intro w' hSw; (try dsimp only at hSw); obtain ⟨hs0, hs1, hs2⟩ := hSw; go_simp <;> with_reducible rfl
    simp only [Act.put, List.setIfInBounds_toArray, List.set_cons_zero, List.set_cons_succ]
    refine heldTake 5 (some 37) (v := ?_) rfl rfl (by kernel_rfl) (by kernel_rfl) (by kernel_rfl) (by rfl) hHeld (fun _ _ _ h => h) ?_ ?_
    rotate_left
    ·intro w' hSw; (try dsimp only at hSw); obtain ⟨hs0, hs1, hs2⟩ := hSw; go_simp <;> with_reducible rfl
    simp only [Act.put, List.setIfInBounds_toArray, List.set_cons_zero, List.set_cons_succ]
    refine heldTake 6 (some 38) (v := ?_) rfl rfl (by kernel_rfl) (by kernel_rfl) (by kernel_rfl) (by rfl) hHeld (fun _ _ _ h => h) ?_ ?_
    rotate_left
    ·intro w' hSw; (try dsimp only at hSw); obtain ⟨hs0, hs1, hs2⟩ := hSw; go_simp <;> with_reducible rfl
    simp only [Act.put, List.setIfInBounds_toArray, List.set_cons_zero, List.set_cons_succ]
    refine heldTake 7 (some 39) (v := ?_) rfl rfl (by kernel_rfl) (by kernel_rfl) (by kernel_rfl) (by rfl) hHeld (fun _ _ _ h => h) ?_ ?_
    rotate_left
    ·intro w' hSw; (try dsimp only at hSw); obtain ⟨hs0, hs1, hs2⟩ := hSw; go_simp <;> with_reducible rfl
    simp only [Act.put, List.setIfInBounds_toArray, List.set_cons_zero, List.set_cons_succ]
    refine heldCall 8 (some 40) (f := ?_) (args := ?_) rfl rfl (by kernel_rfl) (by rfl) ?_ ?_
    rotate_left 2
    ·go_simp <;> first | (constructor <;> with_reducible rfl) | with_reducible rfl
    (with_reducible refine (clone_any _ data w3.drew (DatB.rd (w := w3.drew) hd3 hB3) hdl).mono ?_)
    rintro e w4 ⟨v4, rfl, hO4, hb4⟩
    have hk4 : ∀ b o, b < w3.heap.size → w4.cell? ⟨b, o, none⟩ = w3.cell? ⟨b, o, none⟩ := fun b o hb => World.cell?_of_block (hb4.block b hb)
    refine ⟨_, rfl, keepAnd ?_ (fun hNew => ?_)⟩
    ·exact ⟨(hk4 D 0 hDl3).trans kD, (hk4 _ 0 hFl3).trans kF, (hk4 _ 1 hFl3).trans kG⟩
    clear hHeld
    have hHeld := hNew
    clear hNew
    simp only [Act.put, List.setIfInBounds_toArray, List.set_cons_zero, List.set_cons_succ]
    refine heldOp 9 rfl (by kernel_rfl) (by rfl) ?_
    have hM4 : MapIs w4 M k g2 := hM3.block (hb4.block M hM3.lt)
    refine wp_mput (.tmp 35) (.tmp 37) (.tmp 40) rfl M k g2 rfl hM4 (by unfold maxLen; omega) nm hnm rfl _ rfl ?_
    intro w5 hM5 hc5
    refine keepAnd ?_ (fun hNew => ?_)
    ·exact ⟨(World.cell?_of_block (hc5.block D (by have := hb4.size; simp at this; omega) hDM)).trans ((hk4 D 0 hDl3).trans kD), (World.cell?_of_block (hc5.block wr.heap.size (by have := hb4.size; simp at this; omega) hFM)).trans ((hk4 _ 0 hFl3).trans kF), (World.cell?_of_block (hc5.block wr.heap.size (by have := hb4.size; simp at this; omega) hFM)).trans ((hk4 _ 1 hFl3).trans kG)⟩
    clear hHeld
    have hHeld := hNew
    clear hNew
    simp only [Act.put]
    refine wpAnyH_done (by kernel_rfl) ?_ _
    refine NoPanic.normal ?_
    have hc45 := hc5
    have hB4 : B ≤ w4.heap.size := by have := hb4.size; simp at this; omega
    have hG4 : GRd B w4 g2 fm := (GRd.below (w := w3.drew) hG3 hB3 hb4)
    have hG5 : GRd B w5 (updG g2 nm (some v4)) (updG fm nm (some data)) := (hG4.put nm (DatB.of_own hO4 (fun h => DatB.nb (w := w3.drew) hd3 h))).map hB4 (by omega) hM4.obj hc5
    have hbD5 : w5.heap[D]? = some (.cells #[.map (some M), .slice none 0 0] 47 (0, 0)) := ((hc5.block D (by have := hb4.size; simp at this; omega) hDM).trans (hb4.block D hDl3)).trans hbD3
    have hbw5 : Below w.heap.size w w5 := (hbw3.trans ((Below.undrew hb4).mono hbw3.size)).trans (hc5.below (by have := hbw3.size; have := hb4.size; simp at this; omega) (fun i hi => by omega))
    clear hHeld hM4 hc5 hG4
    go_wp2_with fail
    go_roundw
    case rel =>
     refine ⟨k + 1, _, by omega, by go_num, by rw [← HRES.out, HG2.out], ⟨_, hbD5, hM5, hG5⟩, fun key l hkl => ?_, hbw5⟩
     unfold updG at hkl
     split at hkl
     ·cases hkl; exact hdf
     ·exact HFZ.out key l hkl
    case measure => simp [intOf]; omega
  ·have hke : k = fl.length := by omega
   subst hke
   rw [List.drop_length] at HRES
   go_wp2_with fail
   go_ret
   refine ⟨hbw, ?_⟩
   rw [← HRES.out]
   exact ⟨D, rfl, hDl, hLr.disk (by omega) (by omega) (by omega) (fun key l hkl => by have := HFZ.out key l hkl; omega)⟩
end
section
set_option maxRecDepth 100000
open Go.RowKit Go.Lib Go.IntWalk
/-- an operation of a law -/
structure LOp where
 kind : Int
 name : List UInt8
 to : List UInt8
 data : List UInt8
 keep : Int
 torn : Int
def lopC (p : LOp × Value) : List Value := [.int .i64 p.1.kind, .string (strB p.1.name), .string (strB p.1.to), p.2, .int .i64 p.1.keep, .int .i64 p.1.torn]
theorem lopC_len (p : LOp × Value) : (lopC p).length = 6 := rfl
def lopCs (ps : List (LOp × Value)) : List Value := ps.flatMap lopC
/-- operations that the input has -/
def InOps (B : Nat) (w : World) (v : Value) (los : List LOp) : Prop :=
 ∃ ps : List (LOp × Value), ps.map (·.1) = los ∧ Rd w (· < B) 6 v ps.length (lopCs ps) ∧ ∀ p ∈ ps, RdB w (· < B) p.2 p.1.data
theorem InOps.below {B : Nat} {w w' : World} {v : Value} {los : List LOp} (h : InOps B w v los) (hb : Below B w w') : InOps B w' v los := by
 obtain ⟨ps, h1, h2, h3⟩ := h
 exact ⟨ps, h1, Rd.keep h2 (fun b hb' => hb.block b hb'), fun p hp => Rd.keep (h3 p hp) (fun b hb' => hb.block b hb')⟩
theorem InOps.open_ {B : Nat} {w : World} {v : Value} {los : List LOp} (h : InOps B w v los) : ∃ A c, v = .slice A los.length c ∧ los.length ≤ c ∧ c ≤ maxLen ∧ (A = none → c = 0) := by
 obtain ⟨ps, rfl, hr, hd⟩ := h
 rw [List.length_map]
 exact hr.open_
theorem InOps.elem {B : Nat} {w : World} {A : Option Addr} {c : Nat} {los : List LOp} (h : InOps B w (.slice A los.length c) los) {k : Nat} {q : LOp} (hk : los[k]? = some q) :
  ∃ b off dv, A = some ⟨b, off, none⟩ ∧ w.cell? ⟨b, off + k * 6, none⟩ = some (.int .i64 q.kind) ∧ w.cell? ⟨b, off + k * 6 + 1, none⟩ = some (.string (strB q.name)) ∧ w.cell? ⟨b, off + k * 6 + 2, none⟩ = some (.string (strB q.to)) ∧ w.cell? ⟨b, off + k * 6 + 3, none⟩ = some dv ∧
   w.cell? ⟨b, off + k * 6 + 4, none⟩ = some (.int .i64 q.keep) ∧ w.cell? ⟨b, off + k * 6 + 5, none⟩ = some (.int .i64 q.torn) ∧ RdB w (· < B) dv q.data ∧ b < B := by
 obtain ⟨ps, rfl, hr, hd⟩ := h
 rw [List.length_map] at hr
 rw [List.getElem?_map, Option.map_eq_some_iff] at hk
 obtain ⟨p, hp, rfl⟩ := hk
 obtain ⟨hlt, _⟩ := List.getElem?_eq_some_iff.1 hp
 obtain ⟨b, off, rfl, hF, hc⟩ := Rd.plain hr (by omega) (by omega)
 have e := fun (j : Nat) (hj : j < 6) (u : Value) (hu : (lopC p)[j]? = some u) => hc (k * 6 + j) u ((flat_get 6 lopC lopC_len ps k j hj p hp).trans hu)
 refine ⟨b, off, p.2, rfl, e 0 (by omega) _ rfl, ?_, ?_, ?_, ?_, ?_, hd p (List.mem_of_getElem? hp), hF⟩
 ·rw [Nat.add_assoc]; exact e 1 (by omega) _ rfl
 ·rw [Nat.add_assoc]; exact e 2 (by omega) _ rfl
 ·rw [Nat.add_assoc]; exact e 3 (by omega) _ rfl
 ·rw [Nat.add_assoc]; exact e 4 (by omega) _ rfl
 ·rw [Nat.add_assoc]; exact e 5 (by omega) _ rfl
def losum (los : List LOp) : Nat := (los.map fun o => o.data.length).sum
theorem flsum_take {fl : FL} {k : Nat} {r : List UInt8 × List UInt8} (h : fl[k]? = some r) : flsum (fl.take (k + 1)) = flsum (fl.take k) + r.2.length := by
 obtain ⟨hk, e⟩ := List.getElem?_eq_some_iff.1 h
 rw [List.take_succ_eq_append_getElem hk, e]
 simp [flsum]
theorem losum_take {fl : List LOp} {k : Nat} {r : LOp} (h : fl[k]? = some r) : losum (fl.take (k + 1)) = losum (fl.take k) + r.data.length := by
 obtain ⟨hk, e⟩ := List.getElem?_eq_some_iff.1 h
 rw [List.take_succ_eq_append_getElem hk, e]
 simp [losum]
theorem flsum_take_le (fl : FL) (k : Nat) : flsum (fl.take k) ≤ flsum fl := by
 conv => rhs; rw [← List.take_append_drop k fl]
 simp only [flsum, List.map_append, List.sum_append]; omega
theorem losum_take_le (fl : List LOp) (k : Nat) : losum (fl.take k) ≤ losum fl := by
 conv => rhs; rw [← List.take_append_drop k fl]
 simp only [losum, List.map_append, List.sum_append]; omega
def LargeOut (fl : FL) (los : List LOp) (w0 : World) (e : Ending) (w : World) : Prop :=
 ∃ b, e = .returned (.bool b) ∧ (b = false → fl.length ≤ 40 ∧ los.length ≤ 60 ∧ flsum fl + losum los ≤ 3000) ∧ Below w0.heap.size w0 w
set_option maxRecDepth 100000 in
set_option maxHeartbeats 4000000 in
theorem dlarge_any [Inhabited Nb] (B : Nat) (vf vo : Value) (fl : FL) (los : List LOp) (w : World) (hB : B ≤ w.heap.size) (hf : FlsRd B w vf fl) (ho : InOps B w vo los) (hl : flsum fl + fl.length + losum los + los.length ≤ 1099511627776) :
  Calls Try.prog 6 #[vf, vo] w (LargeOut fl los w) := by
 obtain ⟨A, c, rfl, a1, a2, a3⟩ := hf.open_
 obtain ⟨Ao, co, rfl, b1, b2, b3⟩ := ho.open_
 unfold maxLen at a2 b2
 clear a3 b3
 go_enter Try.func6, Try.ntmps6
 go_wp2_with fail
 go_loopw [5, 12] (fun n i wr => ∃ k : Nat, k ≤ fl.length ∧ i = .int .i64 (k : Int) ∧ n = .int .i64 ((flsum (fl.take k) + k : Nat) : Int) ∧ Below w.heap.size w wr) (fun _ i _ => fl.length - (intOf i).toNat)
 case atStart => exact ⟨0, Nat.zero_le _, rfl, rfl, Below.refl _ _⟩
 case round =>
  obtain ⟨k, hk, rfl, rfl, hbw⟩ := hrel
  by_cases hlt : k < fl.length
  ·obtain ⟨ba, oa, ua, rfl, ga, ga1, da, _⟩ := FlsRd.elem (hf.below hB hbw) (List.getElem?_eq_getElem hlt)
   have HFT := Lib.hid (flsum_take (List.getElem?_eq_getElem hlt))
   have hle := flsum_take_le fl (k + 1)
   rw [HFT.out] at hle
   obtain ⟨Xa, xa, rfl, _, _, _⟩ := Rd.open_ da
   generalize fl[k].1 = nm at *
   generalize fl[k].2 = data at *
   have kG := box_cell wr #[.string (strB nm), .slice Xa data.length xa] 43 1 rfl
   go_wp2_with fail
   go_roundw
   case rel =>
    refine ⟨k + 1, by omega, by go_num, ?_, hbw.alloc hbw.size _⟩
    rw [HFT.out]
    go_num
   case measure => simp [intOf]; omega
  have hke : k = fl.length := by omega
  have HK : Hid (flsum (fl.take k) + k = flsum fl + fl.length) := Lib.hid (by rw [hke, List.take_length])
  rw [HK.out]
  generalize hN : flsum fl + fl.length = N at *
  have HN := Lib.hid hN
  clear hke hN HK
  go_wp2_with fail
  go_loopw [5, 25] (fun n i wr => ∃ k : Nat, k ≤ los.length ∧ i = .int .i64 (k : Int) ∧ n = .int .i64 ((N + losum (los.take k) + k : Nat) : Int) ∧ Below w.heap.size w wr) (fun _ i _ => los.length - (intOf i).toNat)
  case atStart => exact ⟨0, Nat.zero_le _, rfl, by simp [losum], hbw⟩
  case round =>
   obtain ⟨j, hj, rfl, rfl, hbj⟩ := hrel
   by_cases hlj : j < los.length
   ·obtain ⟨ba, oa, ua, rfl, g0, g1, g2, g3, g4, g5, da, _⟩ := InOps.elem (ho.below (hbj.mono hB)) (List.getElem?_eq_getElem hlj)
    have HFT := Lib.hid (losum_take (List.getElem?_eq_getElem hlj))
    have hle := losum_take_le los (j + 1)
    rw [HFT.out] at hle
    obtain ⟨Xa, xa, rfl, _, _, _⟩ := Rd.open_ da
    generalize los[j] = q at *
    have kG := box_cell wr #[.int .i64 q.kind, .string (strB q.name), .string (strB q.to), .slice Xa q.data.length xa, .int .i64 q.keep, .int .i64 q.torn] 35 3 rfl
    go_wp2_with fail
    go_roundw
    case rel =>
     refine ⟨j + 1, by omega, by go_num, ?_, hbj.alloc hbj.size _⟩
     rw [HFT.out]
     go_num
    case measure => simp [intOf]; omega
   have hje : j = los.length := by omega
   have HJ : Hid (N + losum (los.take j) + j = N + losum los + los.length) := Lib.hid (by rw [hje, List.take_length])
   rw [HJ.out]
   clear HJ hje
   by_cases c1 : 40 < fl.length
   ·have q1 : (40 : Int) < (fl.length : Int) := by omega
    go_wp2_with fail
    go_ret
    exact ⟨true, rfl, (fun h => by cases h), hbj⟩
   have q1 : ¬ (40 : Int) < (fl.length : Int) := by omega
   by_cases c2 : 60 < los.length
   ·have q2 : (60 : Int) < (los.length : Int) := by omega
    go_wp2_with fail
    go_ret
    refine Exists.intro true ?_
    refine ⟨rfl, (fun h => by cases h), hbj⟩
   have q2 : ¬ (60 : Int) < (los.length : Int) := by omega
   by_cases c3 : 3000 < N + losum los + los.length
   ·have q3 : (3000 : Int) < (N : Int) + (losum los : Int) + (los.length : Int) := by omega
    go_wp2_with fail
    go_ret
    refine Exists.intro true ?_
    refine ⟨rfl, (fun h => by cases h), hbj⟩
   have q3 : ¬ (3000 : Int) < (N : Int) + (losum los : Int) + (los.length : Int) := by omega
   go_wp2_with fail
   go_ret
   refine Exists.intro false ?_
   refine ⟨rfl, (fun _ => by have := HN.out; omega), hbj⟩
def nA : List UInt8 := [97]
theorem nAV : Value.string ⟨#[97]⟩ = .string (strB nA) := rfl
theorem nA_word : wordF nA = true := by decide
theorem nXV : Value.string ⟨#[120]⟩ = .string (strB [120]) := rfl
theorem nYV : Value.string ⟨#[121]⟩ = .string (strB [121]) := rfl
theorem isL_nil {fm : FM} (h : ∀ k, fm k = none) : IsL fm [] := ⟨List.Pairwise.nil, fun k => (h k).symm⟩
theorem isL_one {fm : FM} {n l : List UInt8} (h : ∀ k, fm k = if k = n then some l else none) : IsL fm [(n, l)] := ⟨List.pairwise_singleton _ _, fun k => by rw [h k, lookL, lookL]⟩
set_option maxRecDepth 100000 in
set_option maxHeartbeats 8000000 in
theorem dworks_any (w : World) : Calls Try.prog 7 #[] w fun e w' => e = .returned (.bool true) ∧ Below w.heap.size w w' := by
 have hB0 : w.heap.size ≤ w.heap.size := Nat.le_refl _
 generalize hBe : w.heap.size = B at hB0
 have HBE := Lib.hid hBe
 clear hBe
 letI : Inhabited Nb := ⟨⟨0⟩⟩
 have HNB0 : Hid (NB = 0) := Lib.hid rfl
 have kc := fun (w : World) (C : Array Value) (n c : Nat) => Lib.run_convert_bytes_const (P := Try.prog) w 33 5 C n c Try.underlying33 Try.underlying5
 go_enter Try.func7, Try.ntmps7
 go_wp2_with fail
 (with_reducible refine (dnew_any B w (by have := HBE.out; omega)).mono ?_)
 rintro e w1 ⟨D, rfl, hDl, hD1, hb1⟩
 have hB1 : B ≤ w1.heap.size := by have := hb1.size; have := HBE.out; omega
 have hW1 : Below B w w1 := HBE.out ▸ hb1
 clear hb1
 go_wp2_with fail
 rw [nAV]
 have hda : DatB B (w1.alloc (.cells #[.int .u8 97, .int .u8 98] 5 (2, 3))) (.slice (some ⟨w1.heap.size, 0, none⟩) 2 2) [97, 98] := rdB_fr w1 [97, 98] (2, 3) (by simp) (by rw [HNB0.out]; have := hD1.lt; omega)
 have hba : Below w1.heap.size w1 (w1.alloc (.cells #[.int .u8 97, .int .u8 98] 5 (2, 3))) := Below.of_alloc _
 have hBa : B ≤ (w1.alloc (.cells #[.int .u8 97, .int .u8 98] 5 (2, 3))).heap.size := by simp; omega
 have hDa := hD1.below hB1 hba
 (with_reducible refine (dappend_ok B 0 D none (fun _ => none) [] nA _ [97, 98] _ hBa (by rw [HNB0.out]; have := hDa.lt; omega) hDa nA_word (hda.rd hBa) (by simp) (by omega)).mono ?_)
 rintro e w2 ⟨rfl, P2, hD2, _, hC2⟩
 have hW2 : Below B w w2 := (hW1.trans (hba.mono hB1)).trans (hC2.below hBa (fun i hi => hDa.ge hi))
 have hB2 : B ≤ w2.heap.size := by have := hC2.size; omega
 have hD2 : DiskAt B 3 w2 D P2 (fun _ => none) [⟨0, nA, [], [97, 98]⟩] := hD2
 clear hda hba hBa hDa hC2 hD1 hW1
 go_wp2_with fail
 (with_reducible refine (dsync_any B 3 D (fun _ => none) [⟨0, nA, [], [97, 98]⟩] w2 hB2 hD2.rd (by omega)).mono ?_)
 rintro e w3 ⟨u3, rfl, hD3, hC3⟩
 have hW3 : Below B w w3 := hW2.trans (hC3.below hB2 (fun i hi => hD2.ge (.inl hi)))
 have hB3 : B ≤ w3.heap.size := by have := hC3.size; omega
 have HF1 : Hid (∀ k, viewF (fun _ => none) [⟨0, nA, [], [97, 98]⟩] k = if k = nA then some [97, 98] else none) := Lib.hid (fun k => by simp [viewF, applyF, updG])
 generalize viewF (fun _ => none) [⟨0, nA, [], [97, 98]⟩] = fm1 at *
 clear hC3 hD2 hW2
 go_wp2_with fail
 rw [nAV]
 have hda : DatB B (w3.alloc (.cells #[.int .u8 99, .int .u8 100] 5 (2, 3))) (.slice (some ⟨w3.heap.size, 0, none⟩) 2 2) [99, 100] := rdB_fr w3 [99, 100] (2, 3) (by simp) (by rw [HNB0.out]; have := hD3.lt; omega)
 have hba : Below w3.heap.size w3 (w3.alloc (.cells #[.int .u8 99, .int .u8 100] 5 (2, 3))) := Below.of_alloc _
 have hBa : B ≤ (w3.alloc (.cells #[.int .u8 99, .int .u8 100] 5 (2, 3))).heap.size := by simp; omega
 have hDa := hD3.below hB3 hba
 (with_reducible refine (dappend_ok B 3 D none fm1 [] nA _ [99, 100] _ hBa (by rw [HNB0.out]; have := hDa.lt; omega) hDa nA_word (hda.rd hBa) (by simp) (by omega)).mono ?_)
 rintro e w4 ⟨rfl, P4, hD4, _, hC4⟩
 have hW4 : Below B w w4 := (hW3.trans (hba.mono hB3)).trans (hC4.below hBa (fun i hi => hDa.ge hi))
 have hB4 : B ≤ w4.heap.size := by have := hC4.size; omega
 have hD4 : DiskAt B 6 w4 D P4 fm1 [⟨0, nA, [], [99, 100]⟩] := hD4
 have hv4 : (viewF fm1 [⟨0, nA, [], [99, 100]⟩] nA).isSome = true := by simp [viewF, applyF, updG]
 clear hda hba hBa hDa hC4 hD3 hW3
 go_wp2_with fail
 rw [nAV]
 (with_reducible refine (dremove_ok B 6 D P4 fm1 [⟨0, nA, [], [99, 100]⟩] nA w4 hB4 hD4 (by decide) (by omega) hv4).mono ?_)
 rintro e w5 ⟨rfl, P5, hD5, _, hC5⟩
 have hW5 : Below B w w5 := hW4.trans (hC5.below hB4 (fun i hi => hD4.ge hi))
 have hB5 : B ≤ w5.heap.size := by have := hC5.size; omega
 have hD5 : DiskAt B 7 w5 D P5 fm1 [⟨0, nA, [], [99, 100]⟩, ⟨1, nA, [], []⟩] := hD5
 clear hv4 hC5 hD4 hW4
 have HV : Hid (∀ k, viewF fm1 [⟨0, nA, [], [99, 100]⟩, ⟨1, nA, [], []⟩] k = none) := Lib.hid (fun k => by
  have := HF1.out k
  by_cases hk : k = nA
  ·simp [viewF, applyF, updG, hk]
  ·rw [if_neg hk] at this; simp [viewF, applyF, updG, hk, this])
 have HL : Hid (([⟨0, nA, [], [99, 100]⟩, ⟨1, nA, [], []⟩] : List DOp).length = 2) := Lib.hid rfl
 have HCR : Hid (viewF fm1 (crashOps [⟨0, nA, [], [99, 100]⟩, ⟨1, nA, [], []⟩] 0 1) nA = some [97, 98, 99]) := Lib.hid (by
  have := HF1.out nA
  rw [if_pos rfl] at this
  simp [crashOps, tornOp, viewF, applyF, updG, this])
 generalize ([⟨0, nA, [], [99, 100]⟩, ⟨1, nA, [], []⟩] : List DOp) = os5 at *
 go_wp2_with fail
 rw [nXV, nYV]
 (with_reducible refine (drename_no B 7 D P5 fm1 os5 [120] [121] w5 hB5 hD5 (by decide) (by omega) (by rw [HV.out]; simp) 7 (Nat.le_refl _)).mono ?_)
 rintro e w6 ⟨rfl, P6, hD6, _, hC6⟩
 have hW6 : Below B w w6 := hW5.trans (hC6.below hB5 (fun i hi => hD5.ge hi))
 have hB6 : B ≤ w6.heap.size := by have := hC6.size; omega
 clear hC6 hD5 hW5
 have CR := Lib.hid (dread_any B 7 D fm1 os5 nA w6 hB6 hD6.rd (by omega) (by decide))
 rw [HV.out nA] at CR
 go_wp2_with fail
 rw [nAV]
 (with_reducible refine CR.out.mono ?_)
 rintro e w7 ⟨v7, rfl, hO7, hb7⟩
 clear CR
 obtain ⟨A7, c7, rfl, _, _, _⟩ := hO7.rd.open_
 have hD7 := hD6.below hB6 hb7
 have hB7 : B ≤ w7.heap.size := by have := hb7.size; omega
 have hW7 : Below B w w7 := hW6.trans (hb7.mono hB6)
 clear hD6 hW6 hb7 hO7
 go_wp2_with fail
 (with_reducible refine (dpending_any B _ D P6 fm1 os5 w7 hD7).mono ?_)
 rintro e w7' ⟨he, rfl⟩
 rw [HL.out] at he
 subst he
 go_wp2_with fail
 (with_reducible refine (dviewl_any B 7 D fm1 os5 w7 hB7 hD7.rd (by omega)).mono ?_)
 rintro e w8 ⟨v8, fl8, rfl, hF8, hI8, hb8⟩
 obtain rfl : fl8 = [] := hI8.unique (isL_nil HV.out)
 obtain ⟨A8, c8, rfl, _, _, _⟩ := hF8.rd.open_
 have hD8 := hD7.below hB7 hb8
 have hB8 : B ≤ w8.heap.size := by have := hb8.size; omega
 have hW8 : Below B w w8 := hW7.trans (hb8.mono hB7)
 clear hD7 hW7 hb8 hF8 hI8
 rw [List.length_nil]
 go_wp2_with fail
 (with_reducible refine (dfiles_any B 7 D fm1 os5 w8 hB8 hD8.rd (by omega)).mono ?_)
 rintro e w9 ⟨v9, fl9, rfl, hF9, hI9, hb9⟩
 obtain rfl : fl9 = [(nA, [97, 98])] := hI9.unique (isL_one HF1.out)
 have hD9 := hD8.below hB8 hb9
 have hB9 : B ≤ w9.heap.size := by have := hb9.size; omega
 have hW9 : Below B w w9 := hW8.trans (hb9.mono hB8)
 clear hD8 hW8 hb9 hI9
 go_wp2_with fail
 rw [nAV]
 have hx1 : DatB B (w9.alloc (.cells #[.int .u8 97, .int .u8 98] 5 (2, 3))) (.slice (some ⟨w9.heap.size, 0, none⟩) 2 2) [97, 98] := rdB_fr w9 [97, 98] (2, 3) (by simp) (by rw [HNB0.out]; have := hD9.lt; omega)
 have hBa1 : B ≤ (w9.alloc (.cells #[.int .u8 97, .int .u8 98] 5 (2, 3))).heap.size := by simp; omega
 have hBa2 : B ≤ ((w9.alloc (.cells #[.int .u8 97, .int .u8 98] 5 (2, 3))).alloc (.cells #[.string (strB nA), .slice (some ⟨w9.heap.size, 0, none⟩) 2 2] 43)).heap.size := by simp; omega
 have hba : Below w9.heap.size w9 ((w9.alloc (.cells #[.int .u8 97, .int .u8 98] 5 (2, 3))).alloc (.cells #[.string (strB nA), .slice (some ⟨w9.heap.size, 0, none⟩) 2 2] 43)) := (Below.of_alloc _).trans ((Below.of_alloc _).mono (by simp))
 have hx2 : FlsRd B ((w9.alloc (.cells #[.int .u8 97, .int .u8 98] 5 (2, 3))).alloc (.cells #[.string (strB nA), .slice (some ⟨w9.heap.size, 0, none⟩) 2 2] 43)) (.slice (some ⟨w9.heap.size + 1, 0, none⟩) 1 1) [(nA, [97, 98])] := by
  refine ⟨[((nA, [97, 98]), .slice (some ⟨w9.heap.size, 0, none⟩) 2 2)], rfl, ?_, fun p hp => ?_⟩
  ·have h := Rd.new' (w9.alloc (.cells #[.int .u8 97, .int .u8 98] 5 (2, 3))) (w9.heap.size + 1) (by simp) (fileC ((nA, [97, 98]), .slice (some ⟨w9.heap.size, 0, none⟩) 2 2)) 43 2 1 rfl (by unfold maxLen; omega)
   refine Rd.wide h ?_
   rintro b rfl
   have h2 := heap_alloc_new (w9.alloc (.cells #[.int .u8 97, .int .u8 98] 5 (2, 3))) (.cells #[.string (strB nA), .slice (some ⟨w9.heap.size, 0, none⟩) 2 2] 43)
   exact .inr ⟨_, by simpa using h2⟩
  ·obtain rfl := List.mem_singleton.1 hp
   exact hx1.alloc hBa1 _
 (with_reducible refine (rsame_any B _ _ [(nA, [97, 98])] [(nA, [97, 98])] _ hBa2 (hF9.rd.below hB9 hba) hx2).mono ?_)
 rintro e w10 ⟨he, hb10⟩
 rw [show decide (([(nA, [97, 98])] : FL) = [(nA, [97, 98])]) = true from by simp] at he
 subst he
 have hb910 : Below w9.heap.size w9 w10 := hba.trans (hb10.mono (by simp; omega))
 have hD10 := hD9.below hB9 hb910
 have hB10 : B ≤ w10.heap.size := by have := hb910.size; omega
 have hW10 : Below B w w10 := hW9.trans (hb910.mono hB9)
 clear hD9 hW9 hb910 hb10 hba hx1 hx2 hBa1 hBa2 hF9
 go_wp2_with fail
 (with_reducible refine (dcrash_any B 7 D P6 fm1 os5 0 1 w10 hB10 hD10 (by omega)).mono ?_)
 rintro e w11 ⟨u11, rfl, hD11, hC11⟩
 have hW11 : Below B w w11 := hW10.trans (hC11.below hB10 (fun i hi => hD10.ge (.inl hi)))
 have hB11 : B ≤ w11.heap.size := by have := hC11.size; omega
 generalize viewF fm1 (crashOps os5 0 1) = fm11 at *
 have CR := Lib.hid (dread_any B 7 D fm11 [] nA w11 hB11 hD11.rd (by omega) (by decide))
 rw [show viewF fm11 [] nA = some [97, 98, 99] from HCR.out] at CR
 clear hC11 hD10 hW10
 go_wp2_with fail
 rw [nAV]
 (with_reducible refine CR.out.mono ?_)
 rintro e w12 ⟨v12, rfl, hO12, hb12⟩
 clear CR
 have cv : (convert 33 9 v12).run Try.prog w12 = .ok (.string ⟨#[97, 98, 99]⟩) w12 := run_bytes_str hO12.rd
 have hD12 := hD11.below hB11 hb12
 have hW12 : Below B w w12 := hW11.trans (hb12.mono hB11)
 go_wp2_with fail
 (with_reducible refine (dpending_any B _ D none fm11 [] w12 hD12).mono ?_)
 rintro e w12' ⟨rfl, rfl⟩
 go_wp2_with fail
 go_ret
 exact ⟨rfl, hW12⟩
end
section
set_option maxRecDepth 100000
open Go.RowKit Go.Lib Go.IntWalk
theorem own_chg {w w' : World} {S : Nat → Prop} {base : Nat} {e : TypeId} {size n : Nat} {v : Value} {cs : List Value} (h : w.ownsRow base e size v n cs) (hc : Chg S w w') (hs : ∀ b, some b = v.ownBlock → ¬ S b) : w'.ownsRow base e size v n cs := by
 refine ⟨h.1, ?_⟩
 rcases h.2 with h0 | ⟨g, cap, cur, rfl, hb, hg, hr⟩
 ·exact .inl h0
 ·exact .inr ⟨g, cap, cur, rfl, hb, (hc.block g (Array.getElem?_eq_some_iff.1 hg).1 (hs g rfl)).trans hg, hr⟩
theorem DiskAt.other {_ : Inhabited Nb} {B Z Z' : Nat} {w w' : World} {U D : Nat} {PU P : Option Nat} {fmu fm : FM} {osu os : List DOp} (h : DiskAt B Z w U PU fmu osu) (hd : DiskAt B Z' w D P fm os) (hB : B ≤ w.heap.size) (hne : ¬ U = D) (hp : ∀ b, some b = PU → ¬ some b = P)
  (hc : Chg (fun b => b = D ∨ some b = P) w w') : DiskAt B Z w' U PU fmu osu := by
 have hbr := hd.br
 obtain ⟨M, n, g, pv, h1, h2, h3, h4, h5, h6, ⟨ps, p1, p2, p3⟩, h8, h9⟩ := h
 have hU : ¬ (U = D ∨ some U = P) := by
  rintro (e | e)
  ·exact hne e
  ·obtain ⟨M', n', g', pv', d1, d2, d3, d4, d5, d6, ⟨qs, q1, q2, q3⟩, d8, rfl⟩ := hd
   exact own_not_disk q2 h1 e
 have hM : ¬ (M = D ∨ some M = P) := by
  obtain ⟨es, clock, hm⟩ := h4.obj
  obtain ⟨M', n', g', pv', d1, d2, d3, d4, d5, d6, ⟨qs, q1, q2, q3⟩, d8, rfl⟩ := hd
  rintro (rfl | e)
  ·rw [d1] at hm; cases hm
  ·obtain ⟨_, cur, hcu⟩ := own_block q2 e
   rw [hcu] at hm; cases hm
 have hUl : U < w.heap.size := (Array.getElem?_eq_some_iff.1 h1).1
 refine ⟨M, n, g, pv, (hc.block U hUl hU).trans h1, h2, h3, h4.chg hc hM, h5, h6.chg hB hc hbr, ⟨ps, p1, ?_, p3.chg hB hc hbr⟩, h8, h9⟩
 refine own_chg p2 hc fun b hb => ?_
 rintro (rfl | e)
 ·obtain ⟨M', n', g', pv', d1, _⟩ := hd
  exact own_not_disk p2 d1 hb
 ·exact hp b (hb.trans h9) e
end
end Go.Proofs.Ythfbfmkdplifeaa
