/-
  Files as sorted lists; disk.list.
  Disks: list, Files, View.
-/
import Derived.Test.YthjephhojngiaaaDoorIter
import Derived.Test.YthjephhojngiaaaDoorWalA0
namespace Go.Proofs.YthjephhojngiaaaDoor
section
set_option maxRecDepth 100000
open Go.RowKit Go.Lib Go.IntWalk Go.Maps Go.Sort

abbrev FL := List (List UInt8 × List UInt8)
def srtK (ks : List (List UInt8)) : Prop := ks.Pairwise (· < ·)
def lookL : FL → List UInt8 → Option (List UInt8)
  | [], _ => none
  | (k, l) :: r, x => if x = k then some l else lookL r x
/-- the list of the files, ascending by name -/
def IsL (fm : FM) (fl : FL) : Prop := srtK (fl.map (·.1)) ∧ ∀ k, lookL fl k = fm k
theorem triB (a b : List UInt8) : a < b ∨ a = b ∨ b < a := by
  by_cases h1 : a < b
  · exact .inl h1
  by_cases h2 : b < a
  · exact .inr (.inr h2)
  exact .inr (.inl (List.le_antisymm (List.not_lt.1 h2) (List.not_lt.1 h1)))
theorem lookL_none : ∀ {a : FL} {k : List UInt8}, (∀ p ∈ a, p.1 ≠ k) → lookL a k = none
  | [], _, _ => rfl
  | (x, l) :: r, k, h => by
    rw [lookL, if_neg (fun e => h (x, l) (List.mem_cons_self ..) e.symm)]
    exact lookL_none fun p hp => h p (List.mem_cons_of_mem _ hp)
theorem lookL_mem : ∀ {a : FL} {k l : List UInt8}, lookL a k = some l → (k, l) ∈ a
  | [], _, _, h => by cases h
  | (x, m) :: r, k, l, h => by
    rw [lookL] at h
    split at h
    · rename_i e; subst e; cases h; exact List.mem_cons_self ..
    · exact List.mem_cons_of_mem _ (lookL_mem h)
theorem srt_head {x : List UInt8} {l : List UInt8} {r : FL} (h : srtK (((x, l) :: r).map (·.1))) : (∀ p ∈ r, x < p.1) ∧ srtK (r.map (·.1)) := by
  have := List.pairwise_cons.1 h
  exact ⟨fun p hp => this.1 _ (List.mem_map.2 ⟨p, hp, rfl⟩), this.2⟩
theorem lookL_below {a : FL} {k : List UInt8} (h : ∀ p ∈ a, k < p.1) : lookL a k = none := lookL_none fun p hp e => by have := h p hp; rw [e] at this; exact List.lt_irrefl _ this
theorem look_unique : ∀ {a b : FL}, srtK (a.map (·.1)) → srtK (b.map (·.1)) → (∀ k, lookL a k = lookL b k) → a = b
  | [], [], _, _, _ => rfl
  | [], (k, l) :: r, _, _, h => by have := h k; simp [lookL] at this
  | (k, l) :: r, [], _, _, h => by have := h k; simp [lookL] at this
  | (k, l) :: r, (k', l') :: r', ha, hb, h => by
    obtain ⟨a1, a2⟩ := srt_head ha
    obtain ⟨b1, b2⟩ := srt_head hb
    rcases triB k k' with hlt | rfl | hlt
    · have h1 := h k
      rw [lookL, if_pos rfl, lookL_below (fun p hp => by
        rcases List.mem_cons.1 hp with rfl | hp
        · exact hlt
        · exact List.lt_trans hlt (b1 p hp))] at h1
      cases h1
    · have h1 := h k
      rw [lookL, if_pos rfl, lookL, if_pos rfl] at h1
      cases h1
      rw [look_unique a2 b2 fun x => ?_]
      by_cases hx : x = k
      · subst hx; rw [lookL_below a1, lookL_below b1]
      · have h2 := h x
        rwa [lookL, if_neg hx, lookL, if_neg hx] at h2
    · have h1 := h k'
      rw [show lookL ((k', l') :: r') k' = some l' from by rw [lookL, if_pos rfl], lookL_below (fun p hp => by
        rcases List.mem_cons.1 hp with rfl | hp
        · exact hlt
        · exact List.lt_trans hlt (a1 p hp))] at h1
      cases h1
theorem IsL.unique {fm : FM} {a b : FL} (ha : IsL fm a) (hb : IsL fm b) : a = b := look_unique ha.1 hb.1 fun k => (ha.2 k).trans (hb.2 k).symm
theorem isL_keys {fm : FM} {ks : List (List UInt8)} (hs : srtK ks) (hm : ∀ x, x ∈ ks ↔ (fm x).isSome = true) : IsL fm (ks.map fun k => (k, (fm k).getD [])) := by
  refine ⟨by rw [List.map_map]; simpa [Function.comp_def] using hs, fun x => ?_⟩
  have key : ∀ ls : List (List UInt8), lookL (ls.map fun k => (k, (fm k).getD [])) x = if x ∈ ls then some ((fm x).getD []) else none := by
    intro ls
    induction ls with
    | nil => rfl
    | cons y r ih =>
      rw [List.map_cons, lookL, ih]
      by_cases hy : x = y
      · subst hy; simp
      · rw [if_neg hy]; simp [hy]
  rw [key]
  cases hx : fm x with
  | none => rw [if_neg (fun h => by have := (hm x).1 h; rw [hx] at this; cases this)]
  | some l => rw [if_pos ((hm x).2 (by rw [hx]; rfl))]; rfl

/-! how files lie -/
def fileC (p : (List UInt8 × List UInt8) × Value) : List Value := [.string (strB p.1.1), p.2]
theorem fileC_len (p : (List UInt8 × List UInt8) × Value) : (fileC p).length = 2 := rfl
def fileCs (ps : List ((List UInt8 × List UInt8) × Value)) : List Value := ps.flatMap fileC
theorem fileCs_len (ps : List ((List UInt8 × List UInt8) × Value)) : (fileCs ps).length = ps.length * 2 := flat_len 2 fileC fileC_len ps
theorem fileCs_snoc (ps : List ((List UInt8 × List UInt8) × Value)) (p : (List UInt8 × List UInt8) × Value) : fileCs (ps ++ [p]) = fileCs ps ++ fileC p := by simp [fileCs]
/-- a block of files -/
def FR (B : Nat) (w : World) (b : Nat) : Prop := b < B ∨ ∃ cs, w.heap[b]? = some (.cells cs 109 (0, 0))
def FlsRd (B : Nat) (w : World) (v : Value) (fl : FL) : Prop :=
  ∃ ps : List ((List UInt8 × List UInt8) × Value), ps.map (·.1) = fl ∧ Rd w (FR B w) 2 v ps.length (fileCs ps) ∧ ∀ p ∈ ps, DatB B w p.2 p.1.2
def FlsOwn (base B : Nat) (w : World) (v : Value) (fl : FL) : Prop :=
  ∃ ps : List ((List UInt8 × List UInt8) × Value), ps.map (·.1) = fl ∧ w.ownsRow base 109 2 v ps.length (fileCs ps) ∧ ∀ p ∈ ps, DatB B w p.2 p.1.2
theorem FlsOwn.nil (base B : Nat) (w : World) : FlsOwn base B w (.slice none 0 0) [] := ⟨[], rfl, World.ownsRow_nil w _ _ _, fun p hp => by cases hp⟩
theorem FlsOwn.rd {base B : Nat} {w : World} {v : Value} {fl : FL} (h : FlsOwn base B w v fl) : FlsRd B w v fl := by
  obtain ⟨ps, h1, h, h2⟩ := h
  refine ⟨ps, h1, ⟨h.1, ?_⟩, h2⟩
  rcases h.2 with ⟨rfl, h0⟩ | ⟨g, cap, cur, rfl, hb, hg, hnc, hcm, hcs, htake⟩
  · rw [h0]
    exact ⟨none, 0, rfl, Nat.le_refl _, Nat.zero_le _, fun _ => rfl, fun h => absurd h (by omega)⟩
  · exact ⟨_, cap, rfl, hnc, hcm, fun h => (Option.some_ne_none _ h).elim, fun _ => ⟨_, rfl, .inr ⟨cur, hg⟩, World.ownsRow.cells (g := g) h rfl⟩⟩
theorem FlsRd.chg {B : Nat} {w w' : World} {S : Nat → Prop} {v : Value} {fl : FL} (h : FlsRd B w v fl) (hB : B ≤ w.heap.size) (hc : Chg S w w') (hs : ∀ b, BR B w b → ¬ S b) (ht : ∀ b, FR B w b → ¬ S b) : FlsRd B w' v fl := by
  obtain ⟨ps, h1, hr, hd⟩ := h
  have hk : ∀ b, FR B w b → w'.heap[b]? = w.heap[b]? := by
    intro b hb
    refine hc.block b ?_ (ht b hb)
    rcases hb with hb | ⟨cs, hb⟩
    · omega
    · exact (Array.getElem?_eq_some_iff.1 hb).1
  refine ⟨ps, h1, (Rd.keep hr hk).wide ?_, fun p hp => (hd p hp).chg hB hc hs⟩
  intro b hb
  have := hk b hb
  rcases hb with hb | ⟨cs, hb⟩
  · exact .inl hb
  · exact .inr ⟨cs, this.trans hb⟩
theorem FlsRd.below {B : Nat} {w w' : World} {v : Value} {fl : FL} (h : FlsRd B w v fl) (hB : B ≤ w.heap.size) (hb : Below w.heap.size w w') : FlsRd B w' v fl :=
  h.chg hB (Chg.of_below hb (fun _ => False)) (fun _ _ h => h) (fun _ _ h => h)
theorem FlsOwn.below {base B : Nat} {w w' : World} {v : Value} {fl : FL} (h : FlsOwn base B w v fl) (hB : B ≤ w.heap.size) (hb : Below w.heap.size w w') : FlsOwn base B w' v fl := by
  obtain ⟨ps, h1, hr, hd⟩ := h
  exact ⟨ps, h1, World.ownsRow.kept (row := none) hr ⟨hb.os, hb.tape, hb.output, hb.size, fun k hk _ => hb.block k hk⟩ (by cases v.ownBlock <;> simp), fun p hp => (hd p hp).below hB hb⟩
theorem FlsRd.open_ {B : Nat} {w : World} {v : Value} {fl : FL} (h : FlsRd B w v fl) : ∃ A c, v = .slice A fl.length c ∧ fl.length ≤ c ∧ c ≤ maxLen ∧ (A = none → c = 0) := by
  obtain ⟨ps, rfl, hr, hd⟩ := h
  rw [List.length_map]
  exact hr.open_
theorem FlsRd.elem {B : Nat} {w : World} {A : Option Addr} {c : Nat} {fl : FL} (h : FlsRd B w (.slice A fl.length c) fl) {k : Nat} {q : List UInt8 × List UInt8} (hk : fl[k]? = some q) :
    ∃ b off dv, A = some ⟨b, off, none⟩ ∧ w.cell? ⟨b, off + k * 2, none⟩ = some (.string (strB q.1)) ∧ w.cell? ⟨b, off + k * 2 + 1, none⟩ = some dv ∧ DatB B w dv q.2 ∧ FR B w b := by
  obtain ⟨ps, rfl, hr, hd⟩ := h
  rw [List.length_map] at hr
  rw [List.getElem?_map, Option.map_eq_some_iff] at hk
  obtain ⟨p, hp, rfl⟩ := hk
  obtain ⟨hlt, _⟩ := List.getElem?_eq_some_iff.1 hp
  obtain ⟨b, off, rfl, hF, hc⟩ := Rd.plain hr (by omega) (by omega)
  have e0 := hc (k * 2) (.string (strB p.1.1)) (by have := flat_get 2 fileC fileC_len ps k 0 (by omega) p hp; rw [Nat.add_zero] at this; exact this)
  have e1 := hc (k * 2 + 1) p.2 (flat_get 2 fileC fileC_len ps k 1 (by omega) p hp)
  exact ⟨b, off, p.2, rfl, e0, by rw [Nat.add_assoc]; exact e1, hd p (List.mem_of_getElem? hp), hF⟩
theorem own_br {base B : Nat} {w : World} {v : Value} {n : Nat} {cs : List Value} (h : w.ownsRow base 109 2 v n cs) (hb : B ≤ base) : ∀ b, BR B w b → ¬ some b = v.ownBlock := by
  rintro b hbr e
  obtain ⟨h1, cur, hc⟩ := own_block h e
  rcases hbr with hbr | ⟨cs', fr, hbr⟩
  · omega
  · rw [hbr] at hc; simp only [Option.some.injEq, Obj.cells.injEq] at hc; exact absurd hc.2.1 (by decide)
theorem FlsOwn.push {base B : Nat} {w w' : World} {v v' : Value} {ps : List ((List UInt8 × List UInt8) × Value)} {q : List UInt8 × List UInt8} {dv : Value} (hB : B ≤ w.heap.size) (hbb : B ≤ base)
    (hO : w.ownsRow base 109 2 v ps.length (fileCs ps)) (hd : ∀ p ∈ ps, DatB B w p.2 p.1.2) (hq : DatB B w dv q.2) (hg : w.grownBy w' v.ownBlock)
    (hO' : w'.ownsRow base 109 2 v' (ps.length + 1) (fileCs ps ++ fileC (q, dv))) : FlsOwn base B w' v' (ps.map (·.1) ++ [q]) := by
  have hbr := own_br hO hbb
  have hc := Chg.of_grown hg
  refine ⟨ps ++ [(q, dv)], by simp, ?_, fun p hp => ?_⟩
  · rw [fileCs_snoc, List.length_append]; exact hO'
  · rcases List.mem_append.1 hp with hp | hp
    · exact (hd p hp).chg hB hc hbr
    · obtain rfl := List.mem_singleton.1 hp
      exact hq.chg hB hc hbr
theorem fileC_one (q : List UInt8 × List UInt8) (dv : Value) (h : dv.oneCell' = true) : ∀ u ∈ fileC (q, dv), u.oneCell' = true := by
  intro u hu
  simp only [fileC, List.mem_cons, List.not_mem_nil, or_false] at hu
  rcases hu with rfl | rfl
  · rfl
  · exact h
theorem infoF : (Tryd.prog.info? 109).map (fun i => (i.zero, i.size, i.bytes)) = some (some (.agg #[.string (strB []), .slice none 0 0]), 2, 40) := by kernel_rfl

/-! the sorted names of a map -/
theorem keys_facts {w : World} {M n : Nat} {D : DataW Value} (hown : w.ownsMap Tryd.prog 9 heldE M n D) : (strKeys D).Nodup ∧ (∀ x, x ∈ strKeys D ↔ Maps.has D (.string x) = true) ∧ Maps.size D ≤ n := by
  have hsz : Maps.size D ≤ n := hown.size_le
  obtain ⟨es, hD, hpw, _⟩ := hown.entries lawS
  obtain ⟨es', hD', hko⟩ := hown.keysOf
  obtain rfl : es = es' := by rw [hD] at hD'; simpa using hD'
  subst hD
  have hk : ∀ p ∈ es, ∃ x, p.1 = .string x := fun p hp => by obtain ⟨v, hv⟩ := hko p hp; obtain ⟨x, _, hx, _⟩ := Maps.keyOf_str Tryd.underlying9 hv; exact ⟨x, hx⟩
  refine ⟨?_, fun x => ?_, hsz⟩
  · show (es.map fun p => strOf p.1).Nodup
    refine List.pairwise_map.2 (hpw.imp_of_mem fun {p q} hp' hq' hne e => hne ?_)
    obtain ⟨a, ha⟩ := hk p hp'
    obtain ⟨b, hb⟩ := hk q hq'
    rw [ha, hb] at e ⊢
    exact congrArg _ e
  · rw [Maps.has_eq, List.any_eq_true]
    show x ∈ es.map (fun p => strOf p.1) ↔ _
    rw [List.mem_map]
    constructor
    · rintro ⟨p, hp, rfl⟩
      obtain ⟨a, ha⟩ := hk p hp
      refine ⟨p, hp, ?_⟩
      rw [ha]; simp [Lit.sameKey, strOf]
    · rintro ⟨p, hp, h⟩
      obtain ⟨a, ha⟩ := hk p hp
      refine ⟨p, hp, ?_⟩
      rw [ha] at h ⊢
      simpa [Lit.sameKey, strOf] using h
theorem sorted_facts {ss : List (List UInt8)} (hnd : ss.Nodup) : srtK (ss.mergeSort fun x y => decide (x ≤ y)) ∧ (∀ x, x ∈ ss.mergeSort (fun x y => decide (x ≤ y)) ↔ x ∈ ss) ∧ (ss.mergeSort fun x y => decide (x ≤ y)).length = ss.length := by
  have tr : ∀ a b c : List UInt8, leB a b = true → leB b c = true → leB a c = true := fun a b c h1 h2 => by simp only [leB, decide_eq_true_eq] at *; exact List.le_trans h1 h2
  have to : ∀ a b : List UInt8, (leB a b || leB b a) = true := fun a b => by simp only [leB, Bool.or_eq_true, decide_eq_true_eq]; exact List.le_total a b
  have hp := List.mergeSort_perm ss leB
  refine ⟨?_, fun x => hp.mem_iff, hp.length_eq⟩
  have h1 := List.pairwise_mergeSort tr to ss
  have h2 : (ss.mergeSort leB).Nodup := hp.nodup_iff.2 hnd
  refine (List.Pairwise.and h1 h2).imp fun {a b} h => ?_
  have h3 : a ≤ b := by simpa [leB] using h.1
  rcases triB a b with h4 | h4 | h4
  · exact h4
  · exact absurd h4 h.2
  · exact absurd h4 (List.not_lt.2 h3)

def ListOut (B : Nat) (fm : FM) (w0 : World) (e : Ending) (w : World) : Prop := ∃ v fl, e = .returned v ∧ FlsOwn w0.heap.size B w v fl ∧ IsL fm fl ∧ Below w0.heap.size w0 w
end

section
set_option maxRecDepth 100000
open Go.RowKit Go.Lib Go.IntWalk Go.Maps Go.Sort

def ListRel (B : Nat) (fm : FM) (ks : List (List UInt8)) (w2 : World) (out i : Value) (w : World) : Prop :=
  ∃ k : Nat, k ≤ ks.length ∧ i = .int .i64 (k : Int) ∧ FlsOwn w2.heap.size B w out ((ks.take k).map fun k => (k, (fm k).getD [])) ∧ Below w2.heap.size w2 w
set_option maxRecDepth 100000 in
set_option maxHeartbeats 2000000 in
theorem dlist_any (B M n : Nat) (g : List UInt8 → Option Value) (fm : FM) (w : World) (hB : B ≤ w.heap.size) (hM : MapIs w M n g) (hG : GRd B w g fm) (hn : n ≤ 1099511627776) (hz : ∀ key, ((fm key).getD []).length ≤ 1099511627776) :
    Calls Tryd.prog 51 #[.map (some M)] w (ListOut B fm w) := by
  obtain ⟨i0, hi, hz0, hz1, hz2⟩ := info_parts infoF
  have hML := hM.lt
  have hM' := hM
  obtain ⟨D, hown, hhas, hat⟩ := hM
  obtain ⟨hnd, hmem, hsz⟩ := keys_facts hown
  have hle := strKeys_le hown Tryd.underlying9
  have CK := Lib.hid (callsIn_wide.1 (Tryd.maps_Keys_75 (some M) w))
  have CS := Lib.hid (callsIn_wide.1 (Tryd.slices_Sorted_keys_74_75 M n D heldE w hown (by unfold maxLen; omega) (by omega)))
  have HND := Lib.hid hnd
  have HMEM : Hid (∀ x, x ∈ strKeys D ↔ (fm x).isSome = true) := Lib.hid fun x => by rw [hmem, hhas, hG.some_eq]
  have HLE := Lib.hid hle
  have HZ := Lib.hid hz
  have HAT := Lib.hid hat
  clear hnd hmem hle hz hhas hat hown
  go_enter Tryd.func51, Tryd.ntmps51
  go_wp2_with fail
  (with_reducible refine CK.out.mono ?_)
  rintro _ _ ⟨rfl, rfl⟩
  clear CK
  go_wp2_with fail
  (with_reducible refine CS.out.mono ?_)
  rintro _ w2 ⟨vk, ss, rfl, hperm, hrow, _, hb2⟩
  clear CS
  obtain ⟨hs1, hs2, hs3⟩ := sorted_facts (hperm.nodup_iff.2 HND.out)
  generalize ss.mergeSort (fun x y => decide (x ≤ y)) = ks at *
  have HKM : Hid (∀ x, x ∈ ks ↔ (fm x).isSome = true) := Lib.hid fun x => by rw [hs2, hperm.mem_iff, HMEM.out]
  have HKL : Hid (∀ x ∈ ks, x.length ≤ maxLen) := Lib.hid fun x hx => HLE.out x (hperm.mem_iff.1 ((hs2 x).1 hx))
  have HKS := Lib.hid hs1
  have hkn : ks.length ≤ n := by rw [hs3, hperm.length_eq]; have h1 : (strKeys D).length ≤ Maps.size D := (by cases D <;> simp [strKeys, Maps.size]); omega
  rw [← hs3] at hrow
  clear hs1 hs2 hs3 hperm HND HMEM HLE
  have hb2' : Below w.heap.size w w2 := (Below.of_alloc _).trans (hb2.mono (by simp))
  have hB2 : B ≤ w2.heap.size := by have := hb2'.size; omega
  have hrd : Rd w2 (· < w2.heap.size) 1 vk ks.length (ks.map encStr) := (Rd.of_own hrow).wide fun _ hb => hb.2
  obtain ⟨Ak, ck, rfl, k1, k2, k3⟩ := hrd.open_
  clear k3 hrow hb2
  unfold maxLen at k2
  go_wp2_with fail
  go_loopw [3, 10] (fun out i wr => ListRel B fm ks w2 out i wr) (fun _ i _ => ks.length - (intOf i).toNat)
  case atStart => exact ⟨0, Nat.zero_le _, rfl, FlsOwn.nil _ _ _, Below.refl _ _⟩
  case round =>
    obtain ⟨k, hk, rfl, hO, hbr⟩ := hrel
    have hBr : B ≤ wr.heap.size := by have := hbr.size; omega
    have hbw : Below w.heap.size w wr := hb2'.trans (hbr.mono hb2'.size)
    by_cases hlt : k < ks.length
    · have hrd' := Rd.keep hrd (fun b hb => hbr.block b hb)
      obtain ⟨bk, ok, rfl, _, hck⟩ := Rd.plain hrd' (by omega) (by omega)
      have hc0 : wr.cell? ⟨bk, ok + k, none⟩ = some (.string (strB ks[k])) := hck k _ (by rw [List.getElem?_map, List.getElem?_eq_getElem hlt]; rfl)
      have hMr : MapIs wr M n g := hM'.block (hbw.block M hML)
      have hkl := HKL.out _ (List.getElem_mem hlt)
      have hlk := hMr.look ks[k] hkl
      have hGr := hG.chg hB (Chg.of_below hbw (fun _ => False)) (fun _ _ h => h)
      have hdk := hGr.get ks[k]
      have hlz := HZ.out ks[k]
      have HT : Hid ((ks.take (k + 1)).map (fun k => (k, (fm k).getD [])) = (ks.take k).map (fun k => (k, (fm k).getD [])) ++ [(ks[k], (fm ks[k]).getD [])]) := Lib.hid (by rw [List.take_succ_eq_append_getElem hlt, List.map_append]; rfl)
      generalize (g ks[k]).getD (.slice none 0 0) = gv at *
      generalize (fm ks[k]).getD [] = gl at *
      generalize ks[k] = kk at *
      clear hck hGr hMr
      obtain ⟨ps, hps, hpo, hpd⟩ := hO
      have hpl : ps.length = k := by have := congrArg List.length hps; simp at this; omega
      go_wp2_with fail
      (with_reducible refine (clone_any gv gl wr (hdk.rd hBr) hlz).mono ?_)
      rintro _ w3 ⟨v3, rfl, hO3, hb3⟩
      obtain ⟨A3, c3, rfl, _, _, _⟩ := hO3.rd.open_
      have hB3 : B ≤ w3.heap.size := by have := hb3.size; omega
      have hbs := hbr.size
      have hb3s := hb3.size
      have hpo3 : w3.ownsRow w2.heap.size 109 2 u3 ps.length (fileCs ps) := World.ownsRow.kept (row := none) hpo ⟨hb3.os, hb3.tape, hb3.output, hb3.size, fun k hk _ => hb3.block k hk⟩ (by cases u3.ownBlock <;> simp)
      have hpd3 : ∀ p ∈ ps, DatB B w3 p.2 p.1.2 := fun p hp => (hpd p hp).below hBr hb3
      have hdv3 : DatB B w3 (.slice A3 gl.length c3) gl := DatB.of_own hO3
      have hbr3 : Below w2.heap.size w2 w3 := hbr.trans (hb3.mono hbs)
      clear hpd hpo
      go_wp2_with (at_builtin; refine wpList_append_app _ rfl (.tmp 14) (.tmp 21) 47 rfl w2.heap.size 109 i0 _ 2 40 Tryd.underlying47 hi hz0 hz1 hz2 rfl (by omega) u3 ps.length (fileCs ps) rfl (by exact .inl (World.ownsRow.alloc hpo3 _)) (· = w3.heap.size) _ 1 (fileC ((kk, gl), .slice A3 gl.length c3)) rfl (by exact Rd.new' _ w3.heap.size rfl (fileC ((kk, gl), .slice A3 gl.length c3)) 109 2 1 rfl (by unfold maxLen; omega)) (fileC_one _ _ rfl) (by unfold maxLen; omega) (by omega) (by simp; omega) ?_; intro v4 w4 _ hO4 hg4 hb4 _)
      go_roundw
      case rel =>
        refine ⟨k + 1, by omega, by go_num, ?_, (hbr3.alloc hbr3.size _).trans hb4⟩
        rw [HT.out, ← hps]
        exact FlsOwn.push (dv := .slice A3 gl.length c3) (by simp; omega) hB2 (World.ownsRow.alloc hpo3 _) (fun p hp => (hpd3 p hp).alloc hB3 _) (hdv3.alloc hB3 _) hg4 (hO4 (.inl (by omega)))
      case measure => simp [intOf]; omega
    · have hke : k = ks.length := by omega
      subst hke
      rw [List.take_length] at hO
      go_wp2_with fail
      go_ret
      refine ⟨_, _, rfl, ?_, isL_keys HKS.out HKM.out, hbw⟩
      obtain ⟨ps, h1, h2, h3⟩ := hO
      exact ⟨ps, h1, own_base h2 hb2'.size, h3⟩

theorem DiskAt.sz {B Z : Nat} {w : World} {D : Nat} {P : Option Nat} {fm : FM} {os : List DOp} (h : DiskAt B Z w D P fm os) : DSz Z fm os := by
  obtain ⟨M, n, g, pv, h1, h2, h3, h4, h5, h6, h7, h8, _⟩ := h; exact h8
set_option maxRecDepth 100000 in
set_option maxHeartbeats 1000000 in
theorem dviewl_any (B Z D : Nat) (fm : FM) (os : List DOp) (w : World) (hB : B ≤ w.heap.size) (hD : DiskRd B Z w D fm os) (hZ : Z ≤ 1099511627776) :
    Calls Tryd.prog 25 #[.pointer (some ⟨D, 0, none⟩)] w (ListOut B (viewF fm os) w) := by
  have CV := Lib.hid (view_any B Z D fm os w hB hD hZ)
  obtain ⟨M, n, g, pv, hb, hBD, hBM, hM, hn, hG, hP, hZs⟩ := hD
  have HZS := Lib.hid hZs.view
  go_enter Tryd.func25, Tryd.ntmps25
  go_wp2_with fail
  (with_reducible refine CV.out.mono ?_)
  rintro _ w1 ⟨M1, n1, g1, rfl, hM1l, hM1, hn1, hG1, hb1⟩
  have hB1 : B ≤ w1.heap.size := by have := hb1.size; omega
  go_wp2_with fail
  (with_reducible refine (dlist_any B M1 n1 g1 _ w1 hB1 hM1 hG1 (by omega) (fun key => by have := HZS.out.get key; omega)).mono ?_)
  rintro _ w2 ⟨v, fl, rfl, ⟨ps, p1, p2, p3⟩, h2, h3⟩
  go_wp2_with fail
  go_ret
  exact ⟨_, _, rfl, ⟨ps, p1, own_base p2 hb1.size, p3⟩, h2, hb1.trans (h3.mono hb1.size)⟩
end
end Go.Proofs.YthjephhojngiaaaDoor
