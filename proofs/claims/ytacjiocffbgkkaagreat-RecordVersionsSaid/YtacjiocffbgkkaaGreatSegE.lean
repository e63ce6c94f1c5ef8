/-
  Blocks: segment.cut.
-/
import Derived.Test.YtacjiocffbgkkaaGreatSegD
namespace Go.Proofs.YtacjiocffbgkkaaGreat
open Go.RowKit Go.Lib Go.IntWalk Go.Sort Go.Shelf

section
variable {α : Type}
def chunksF : Nat → Nat → List α → List (List α)
  | 0, _, _ => []
  | f + 1, n, l => if l.isEmpty then [] else l.take n :: chunksF f n (l.drop n)
/-- the list in parts of n elements -/
def chunks (n : Nat) (l : List α) : List (List α) := chunksF l.length n l
theorem chunksF_nil (f n : Nat) : chunksF f n ([] : List α) = [] := by cases f <;> rfl
theorem chunksF_fuel (n : Nat) (hn : 1 ≤ n) : ∀ (f g : Nat) (l : List α), l.length ≤ f → l.length ≤ g → chunksF f n l = chunksF g n l := by
  intro f
  induction f with
  | zero =>
    intro g l h _
    have : l = [] := List.eq_nil_of_length_eq_zero (by omega)
    subst this
    rw [chunksF_nil, chunksF_nil]
  | succ f ih =>
    intro g l h1 h2
    cases g with
    | zero =>
      have : l = [] := List.eq_nil_of_length_eq_zero (by omega)
      subst this
      rw [chunksF_nil, chunksF_nil]
    | succ g =>
      by_cases he : l = []
      · subst he; rw [chunksF_nil, chunksF_nil]
      · have hl : 0 < l.length := List.length_pos_iff.2 he
        have hi : l.isEmpty = false := by cases l <;> simp_all
        rw [chunksF, chunksF, hi]
        simp only [Bool.false_eq_true, if_false]
        rw [ih g (l.drop n) (by rw [List.length_drop]; omega) (by rw [List.length_drop]; omega)]
theorem chunks_nil (n : Nat) : chunks n ([] : List α) = [] := rfl
theorem chunks_cons {n : Nat} (hn : 1 ≤ n) {l : List α} (h : 0 < l.length) : chunks n l = l.take n :: chunks n (l.drop n) := by
  have hi : l.isEmpty = false := by cases l <;> simp_all
  unfold chunks
  obtain ⟨f, hf⟩ : ∃ f, l.length = f + 1 := ⟨l.length - 1, by omega⟩
  rw [hf, chunksF, hi]
  simp only [Bool.false_eq_true, if_false]
  rw [chunksF_fuel n hn f (l.drop n).length (l.drop n) (by rw [List.length_drop]; omega) (Nat.le_refl _)]
theorem chunks_map {β : Type} (g : α → β) (n : Nat) (hn : 1 ≤ n) : ∀ (k : Nat) (l : List α), l.length ≤ k → (chunks n l).map (List.map g) = chunks n (l.map g) := by
  intro k
  induction k with
  | zero =>
    intro l h
    have : l = [] := List.eq_nil_of_length_eq_zero (by omega)
    subst this; rfl
  | succ k ih =>
    intro l h
    by_cases h0 : 0 < l.length
    · rw [chunks_cons hn h0, chunks_cons (l := l.map g) hn (by rw [List.length_map]; exact h0), List.map_cons, ih _ (by rw [List.length_drop]; omega), List.map_take, List.map_drop]
    · have : l = [] := List.eq_nil_of_length_eq_zero (by omega)
      subst this; rfl
theorem chunks_flat (n : Nat) (hn : 1 ≤ n) : ∀ (k : Nat) (l : List α), l.length ≤ k → (chunks n l).flatten = l := by
  intro k
  induction k with
  | zero =>
    intro l h
    have : l = [] := List.eq_nil_of_length_eq_zero (by omega)
    subst this; rfl
  | succ k ih =>
    intro l h
    by_cases h0 : 0 < l.length
    · rw [chunks_cons hn h0, List.flatten_cons, ih _ (by rw [List.length_drop]; omega), List.take_append_drop]
    · have : l = [] := List.eq_nil_of_length_eq_zero (by omega)
      subst this; rfl
theorem chunks_len (n : Nat) (hn : 1 ≤ n) : ∀ (k : Nat) (l : List α), l.length ≤ k → (chunks n l).length ≤ l.length := by
  intro k
  induction k with
  | zero =>
    intro l h
    have : l = [] := List.eq_nil_of_length_eq_zero (by omega)
    subst this; exact Nat.le_refl _
  | succ k ih =>
    intro l h
    by_cases h0 : 0 < l.length
    · rw [chunks_cons hn h0, List.length_cons]
      have := ih (l.drop n) (by rw [List.length_drop]; omega)
      rw [List.length_drop] at this
      omega
    · have : l = [] := List.eq_nil_of_length_eq_zero (by omega)
      subst this; exact Nat.le_refl _
theorem chunks_mem {n : Nat} (hn : 1 ≤ n) : ∀ (k : Nat) (l : List α), l.length ≤ k → ∀ c ∈ chunks n l, 0 < c.length ∧ c.length ≤ n ∧ ∀ x ∈ c, x ∈ l := by
  intro k
  induction k with
  | zero =>
    intro l h c hc
    have : l = [] := List.eq_nil_of_length_eq_zero (by omega)
    subst this; cases hc
  | succ k ih =>
    intro l h c hc
    by_cases h0 : 0 < l.length
    · rw [chunks_cons hn h0] at hc
      rcases List.mem_cons.1 hc with rfl | hc
      · exact ⟨by rw [List.length_take]; omega, by rw [List.length_take]; omega, fun x hx => List.mem_of_mem_take hx⟩
      · obtain ⟨h1, h2, h3⟩ := ih _ (by rw [List.length_drop]; omega) c hc
        exact ⟨h1, h2, fun x hx => List.mem_of_mem_drop (h3 x hx)⟩
    · have : l = [] := List.eq_nil_of_length_eq_zero (by omega)
      subst this; cases hc
end

def blkE (p : LVP) : List Value := (bndF (p.2.map (·.2))).enc ++ [p.1]
theorem blkE_length (p : LVP) : (blkE p).length = 5 := rfl
/-- v is a slice of blocks -/
def RdBk (w : World) (F : Nat → Prop) (v : Value) (ls : List LVP) : Prop := Rd w F 5 v ls.length (ls.flatMap blkE) ∧ ∀ p ∈ ls, RdVs w F p.1 p.2
theorem RdBk.keep {w w' : World} {F : Nat → Prop} {v : Value} {ls : List LVP} (h : RdBk w F v ls) (hk : Keeps F w w') : RdBk w' F v ls := ⟨h.1.keep hk, fun p hp => (h.2 p hp).keep hk⟩
theorem RdBk.wide {w : World} {F G : Nat → Prop} {v : Value} {ls : List LVP} (h : RdBk w F v ls) (hk : ∀ b, F b → G b) : RdBk w G v ls := ⟨h.1.wide hk, fun p hp => (h.2 p hp).wide hk⟩
theorem RdBk.below {w w' : World} {v : Value} {ls : List LVP} (h : RdBk w (· < w.heap.size) v ls) (hb : Below w.heap.size w w') : RdBk w' (· < w'.heap.size) v ls :=
  (h.keep (Keeps.below hb)).wide fun _ h => Nat.lt_of_lt_of_le h hb.size
theorem RdBk.at_ {w : World} {F : Nat → Prop} {A : Option Addr} {c : Nat} {ls : List LVP} (h : RdBk w F (.slice A ls.length c) ls) {k : Nat} (hk : k < ls.length) :
    ∃ b off, A = some ⟨b, off, none⟩ ∧ F b ∧ (∀ j u, j < 5 → (blkE ls[k])[j]? = some u → w.cell? ⟨b, off + k * 5 + j, none⟩ = some u) ∧ RdVs w F ls[k].1 ls[k].2 := by
  obtain ⟨b, off, rfl, hF, hc⟩ := Rd.plain h.1 (by omega) (by omega)
  refine ⟨b, off, rfl, hF, fun j u hj hu => ?_, h.2 _ (List.getElem_mem hk)⟩
  have := flat_getC 5 ls blkE (fun _ _ => rfl) k j hj _ (List.getElem?_eq_getElem hk)
  have h2 := hc (k * 5 + j) u (this.trans hu)
  rw [← Nat.add_assoc] at h2
  exact h2
theorem infoBlk : (Tryz.prog.info? 81).map (fun i => (i.zero, i.size, i.bytes)) = some (some (.agg #[.int .i64 0, .int .i64 0, .int .i64 0, .int .i64 0, .slice none 0 0]), 5, 56) := by kernel_rfl
def OwnBk (w : World) (base : Nat) (v : Value) (ls : List LVP) : Prop := w.ownsRow base 81 5 v ls.length (ls.flatMap blkE)
def CutOut (v : Value) (n : Nat) (ps : List VP) (w0 : World) (e : Ending) (w : World) : Prop :=
  ∃ u ls, e = .returned u ∧ OwnBk w w0.heap.size u ls ∧ (∀ F, RdVs w0 F v ps → ∀ p ∈ ls, RdVs w0 F p.1 p.2) ∧ ls.map (·.2) = chunks n ps ∧ Below w0.heap.size w0 w
theorem CutOut.rd {w0 w : World} {u : Value} {ls : List LVP} (h : OwnBk w w0.heap.size u ls) (h2 : ∀ p ∈ ls, RdVs w0 (· < w0.heap.size) p.1 p.2) (hb : Below w0.heap.size w0 w) : RdBk w (· < w.heap.size) u ls :=
  ⟨(Rd.of_own h).wide fun _ hb => hb.2, fun p hp => (h2 p hp).below hb⟩

set_option maxRecDepth 1000000 in
set_option maxHeartbeats 4000000 in
theorem cut_any (v : Value) (ps : List VP) (n : Nat) (w : World) (hv : RdVs w (· < w.heap.size) v ps) (hn : 1 ≤ n) (hn2 : n ≤ 1048576) (hl : ps.length ≤ 1048576) :
    Calls Tryz.prog 39 #[v, .int .i64 (n : Int)] w (CutOut v n ps w) := by
  obtain ⟨A, c, rfl, hc1, hc2, hc3⟩ := hv.1.open_
  unfold maxLen at hc2
  have HV := Lib.hid hv
  obtain ⟨i0, hi, hz0, hz1, hz2⟩ := info_parts infoBlk
  have HI := Lib.hid hi
  have HZ0 := Lib.hid hz0
  have HZ1 := Lib.hid hz1
  have HZ2 := Lib.hid hz2
  clear hv hi hz0 hz1 hz2 hc3
  go_enter Tryz.func39, Tryz.ntmps39
  go_wp2_with fail
  go_loopw [5, 6] (fun o i wr => ∃ (a : Nat) (ls : List LVP), i = .int .i64 (a : Int) ∧ a ≤ ps.length + n ∧ ls.length ≤ a ∧ Hid (OwnBk wr w.heap.size o ls) ∧ Hid (∀ F, RdVs w F (.slice A ps.length c) ps → ∀ p ∈ ls, RdVs w F p.1 p.2) ∧ Hid (ls.map (·.2) ++ chunks n (ps.drop a) = chunks n ps) ∧ Below w.heap.size w wr) (fun _ i _ => ps.length + n - (intOf i).toNat)
  case atStart => exact ⟨0, [], rfl, by omega, Nat.zero_le _, Lib.hid (World.ownsRow_nil _ _ _ _), Lib.hid (fun _ _ p hp => by cases hp), Lib.hid (by simp), Below.refl _ _⟩
  case round =>
    obtain ⟨a, ls, rfl, ha, hla, HO, HR, HC, hB⟩ := hrel
    obtain ⟨wi, rfl⟩ : ∃ wi : World, wi = wr := ⟨_, rfl⟩
    have hsi := hB.size
    obtain ⟨Ao, co, rfl, o1, o2, o3⟩ := Rd.open_ (Rd.of_own HO.out)
    clear o3 o2
    by_cases hlt : a < ps.length
    case neg =>
      have HF : Hid (ls.map (·.2) = chunks n ps) := Lib.hid (by rw [← HC.out, List.drop_of_length_le (by omega), chunks_nil, List.append_nil])
      go_wp2_with fail
      go_ret
      exact ⟨_, ls, rfl, HO.out, HR.out, HF.out, hB⟩
    case pos =>
      obtain ⟨m, hm⟩ : ∃ m, m = min (a + n) ps.length := ⟨_, rfl⟩
      have hmi : min ((a : Int) + (n : Int)) (ps.length : Int) = (m : Int) := by omega
      have ham : a < m := by omega
      have hmn : m - a ≤ n := by omega
      have hml : m ≤ ps.length := by omega
      have htk : (ps.drop a).take (m - a) = (ps.drop a).take n := by
        by_cases hh : a + n ≤ ps.length
        · rw [show m - a = n by omega]
        · rw [List.take_of_length_le (by rw [List.length_drop]; omega), List.take_of_length_le (by rw [List.length_drop]; omega)]
      have hcut := fun F (hF : RdVs w F (.slice A ps.length c) ps) => RdVs.cut hF (i := a) (j := m) (m := m) (by omega) hml (Nat.le_refl _) (by omega)
      rw [htk] at hcut
      have hch := chunks_cons hn (l := ps.drop a) (by rw [List.length_drop]; omega)
      rw [List.drop_drop] at hch
      have hC2 := HC.out
      rw [hch] at hC2
      have hsl := fun W => slice_vers3 (A := A) (n := ps.length) (c := c) a m (by omega) (by omega) W
      obtain ⟨qs, hqs⟩ : ∃ qs, qs = (ps.drop a).take n := ⟨_, rfl⟩
      have hql : 0 < qs.length := by rw [hqs, List.length_take, List.length_drop]; omega
      rw [← hqs] at hcut hC2
      have KB := bounds_any _ qs wi ((hcut _ HV.out).below hB) hql
      have HCUT := Lib.hid hcut
      have HC2 := Lib.hid hC2
      clear hcut hC2 hch htk hqs hql hm
      generalize hB4 : bndF (qs.map (·.2)) = r4 at *
      obtain ⟨r1, r2, r3, r4⟩ := r4
      have HB4 := Lib.hid hB4
      clear hB4
      have KB' : Calls Tryz.prog 50 #[.slice (cutA A m a 9) (m - a) (m - a)] wi fun e w' => e = .returned (.agg #[.int .i64 r1, .int .i64 r2, .int .i64 r3, .int .i64 r4]) ∧ Below wi.heap.size wi w' := KB
      clear KB
      go_wp2_with fail
      (with_reducible refine KB'.mono ?_)
      rintro _ w2 ⟨rfl, hb2⟩
      have hz2 := hb2.size
      have hO2 : OwnBk (w2.alloc (.cells #[.int .i64 r1, .int .i64 r2, .int .i64 r3, .int .i64 r4, .slice (cutA A m a 9) (m - a) (m - a)] 81)) w.heap.size (.slice Ao ls.length co) ls := World.ownsRow.alloc (own_below HO.out hb2) _
      have HOA := Lib.hid hO2
      have hnew : Rd (w2.alloc (.cells #[.int .i64 r1, .int .i64 r2, .int .i64 r3, .int .i64 r4, .slice (cutA A m a 9) (m - a) (m - a)] 81)) (· = w2.heap.size) 5 (.slice (some ⟨w2.heap.size, 0, none⟩) 1 1) 1 [.int .i64 r1, .int .i64 r2, .int .i64 r3, .int .i64 r4, .slice (cutA A m a 9) (m - a) (m - a)] := Rd.new' w2 w2.heap.size rfl [.int .i64 r1, .int .i64 r2, .int .i64 r3, .int .i64 r4, .slice (cutA A m a 9) (m - a) (m - a)] 81 5 1 rfl (by decide)
      have HNEW := Lib.hid hnew
      have HB2 := Lib.hid hb2
      have hone : ∀ u ∈ [Value.int .i64 r1, .int .i64 r2, .int .i64 r3, .int .i64 r4, .slice (cutA A m a 9) (m - a) (m - a)], u.oneCell' = true := by
        intro u hu
        simp only [List.mem_cons, List.not_mem_nil, or_false] at hu
        rcases hu with rfl | rfl | rfl | rfl | rfl <;> rfl
      have HONE := Lib.hid hone
      clear hO2 hnew hb2 hone KB' hsl
      go_wp2_with (at_builtin; refine wpList_append_app (w2.alloc (.cells #[.int .i64 r1, .int .i64 r2, .int .i64 r3, .int .i64 r4, .slice (cutA A m a 9) (m - a) (m - a)] 81)) rfl (.tmp 27) (.tmp 32) 74 rfl w.heap.size 81 i0 _ 5 56 Tryz.underlying74 HI.out HZ0.out HZ1.out HZ2.out rfl (by omega) (.slice Ao ls.length co) ls.length (ls.flatMap blkE) rfl (.inl HOA.out) (· = w2.heap.size) _ 1 [.int .i64 r1, .int .i64 r2, .int .i64 r3, .int .i64 r4, .slice (cutA A m a 9) (m - a) (m - a)] rfl HNEW.out HONE.out (by unfold maxLen; omega) (by omega) (by simp; omega) ?_; intro v3 w3 _ hO3 hg3 hb3 hv3)
      all_goals skip
      have hO3' : OwnBk w3 w.heap.size v3 (ls ++ [(.slice (cutA A m a 9) (m - a) (m - a), qs)]) := by
        have h := hO3 (.inl (by omega))
        unfold OwnBk
        rw [List.length_append, List.flatMap_append]
        have e : List.flatMap blkE [((Value.slice (cutA A m a 9) (m - a) (m - a), qs) : LVP)] = [.int .i64 r1, .int .i64 r2, .int .i64 r3, .int .i64 r4, .slice (cutA A m a 9) (m - a) (m - a)] := by
          simp only [List.flatMap_cons, List.flatMap_nil, List.append_nil, blkE]
          rw [HB4.out]; rfl
        rw [e]
        exact h
      have hB3 : Below w.heap.size w w3 := (hB.trans ((HB2.out.alloc HB2.out.size _).mono hsi)).trans hb3
      have HO4 := Lib.hid hO3'
      have HR4 : Hid (∀ F, RdVs w F (.slice A ps.length c) ps → ∀ p ∈ ls ++ [((Value.slice (cutA A m a 9) (m - a) (m - a), qs) : LVP)], RdVs w F p.1 p.2) := Lib.hid (fun F hF p hp => by
        rcases List.mem_append.1 hp with hp | hp
        · exact HR.out F hF p hp
        · rw [List.mem_singleton] at hp; subst hp; exact HCUT.out F hF)
      clear hO3 hO3' hg3 hb3 hv3
      go_wp2_with fail
      go_roundw
      case rel => exact ⟨a + n, _, by go_num, by omega, by simp; omega, HO4, HR4, Lib.hid (by rw [← HC2.out]; simp), hB3⟩
      case measure => simp [intOf]; omega
end Go.Proofs.YtacjiocffbgkkaaGreat
