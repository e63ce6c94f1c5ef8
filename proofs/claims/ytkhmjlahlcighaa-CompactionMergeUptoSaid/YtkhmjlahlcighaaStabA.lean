/-
  The stable sort: swapRange.
-/
import Derived.Test.YtkhmjlahlcighaaBase
import Derived.Test.YtkhmjlahlcighaaStabPure
import Derived.Shelf.SlSortCmp.InsertionK
namespace Go.Proofs.Ytkhmjlahlcighaa
open Go.RowKit Go.Lib Go.IntWalk Go.Sort Go.Shelf

section
variable {α : Type} [Inhabited α]
theorem chg_setCells (b : Nat) : ∀ (vs : List Value) (o : Nat) (w : World), Chg (· = b) w (w.setCells b o vs)
  | [], _, w => Chg.refl _ w
  | v :: r, o, w => by
    rw [World.setCells]
    exact (Chg.setCell (Chg.refl (· = b) w) (p := ⟨b, o, none⟩) (.inl rfl) v).trans (chg_setCells b r (o + 1) _) (fun _ _ h => h)
theorem holdsK_swp {enc : α → List Value} {k : Nat} (hk : ∀ x, (enc x).length = k) {w : World} {blk off : Nat} {d : Array α} (h : HoldsK enc k w blk off d) {i j : Nat} (hi : i < d.size) (hj : j < d.size) :
    HoldsK enc k ((w.setCells blk (off + i * k) (enc d[j]!)).setCells blk (off + j * k) (enc d[i]!)) blk off (swp d i j) := by
  have e : putRowK enc k w blk off d = w := putRowK_self enc k w blk off d h
  have e2 := putRowK_swp enc k hk w blk off d i j hi hj
  rw [e] at e2
  rw [e2]
  exact holdsK_putRowK enc k w blk off d _ h (size_swp _ _ _)
theorem HoldsK.keep {enc : α → List Value} {k : Nat} {w w' : World} {blk off : Nat} {d : Array α} (h : HoldsK enc k w blk off d) (e : w'.heap[blk]? = w.heap[blk]?) : HoldsK enc k w' blk off d := by
  intro j hj
  have := h j hj
  rw [World.cell?_of_block e]
  refine ⟨this.1, ?_⟩
  have h2 := this.2
  unfold World.frozen? at h2 ⊢
  rw [e]
  exact h2
end

set_option maxRecDepth 1000000 in
set_option maxHeartbeats 4000000 in
theorem swapRange_any {α : Type} [Inhabited α] (enc : α → List Value) (k : Nat) (aE : ∀ w, (isAgg 38).run Try.prog w = .ok true w) (zE : ∀ w, (Go.sizeOf 38).run Try.prog w = .ok k w) (hk : ∀ x, (enc x).length = k) (h1 : ∀ x, ∀ v ∈ enc x, v.oneCell' = true)
    (blk off cap a b n sz : Nat) (d : Array α) (hz : d.size = sz) (fv : Value) (w : World) (hH : HoldsK enc k w blk off d) (hab : a + n ≤ b) (hb : b + n ≤ d.size) (hsz : d.size < 4611686018427387904) :
    Calls Try.prog 49 #[.slice (some ⟨blk, off, none⟩) sz cap, .int .i64 a, .int .i64 b, .int .i64 n, fv] w fun e w' =>
      e = .returned (.tuple #[]) ∧ HoldsK enc k w' blk off (swpR d a b n) ∧ Chg (· = blk) w w' := by
  subst hz
  have HH : Hid (HoldsK enc k w blk off d) := hH
  have HK : Hid (∀ x, (enc x).length = k) := hk
  have H1 : Hid (∀ x, ∀ v ∈ enc x, v.oneCell' = true) := h1
  clear hH hk h1
  have mixed : Try.prog.follows .mixedOrders = true := by kernel_rfl
  go_enter Try.func49, Try.ntmps49
  go_wp2_with fail
  go_loopw [10] (fun i wr => ∃ t : Nat, t ≤ n ∧ i = .int .i64 (t : Int) ∧ Hid (HoldsK enc k wr blk off (swpR d a b t)) ∧ Chg (· = blk) w wr) (fun i _ => n - (RowKit.intOf i).toNat)
  case atStart => exact ⟨0, Nat.zero_le _, rfl, HH, Chg.refl _ _⟩
  case round =>
    obtain ⟨t, ht, rfl, HR, hC⟩ := hrel
    have hsR := size_swpR d a b t
    generalize hdt : swpR d a b t = dt at *
    have HDT := Lib.hid hdt
    clear hdt
    by_cases hlt : t < n
    case pos =>
      have hHd : HoldsK enc k wr.drew blk off dt := HR.out
      have bnd : ∀ x, x < dt.size → x * k + k ≤ dt.size * k := fun x hx => by
        have := Nat.mul_le_mul_right k (show x + 1 ≤ dt.size from hx); rwa [Nat.add_mul, Nat.one_mul] at this
      obtain ⟨xa, hxa⟩ : ∃ x, dt[a + t]! = x := ⟨_, rfl⟩
      obtain ⟨xb, hxb⟩ : ∃ x, dt[b + t]! = x := ⟨_, rfl⟩
      have la : Sem.run Try.prog (loadCellsFrom ⟨blk, off + (a + t) * k, none⟩ 0 k #[]) wr.drew = .ok (enc xa).toArray wr.drew := by rw [← hxa]; exact run_loadCellsFrom_list Try.prog _ _ _ k (HK.out _) (HoldsK.cells hHd HK.out (by omega))
      have lb : Sem.run Try.prog (loadCellsFrom ⟨blk, off + (b + t) * k, none⟩ 0 k #[]) wr.drew = .ok (enc xb).toArray wr.drew := by rw [← hxb]; exact run_loadCellsFrom_list Try.prog _ _ _ k (HK.out _) (HoldsK.cells hHd HK.out (by omega))
      have s1 : Sem.run Try.prog (storeCells ⟨blk, off + (a + t) * k, none⟩ (enc xb) 0) wr.drew = .ok () (wr.drew.setCells blk (off + (a + t) * k) (enc xb)) := stores_of_holds Try.prog hHd ((a + t) * k) _ (by rw [HK.out, size_flatK]; exact bnd (a + t) (by omega)) (H1.out _)
      have s2 : Sem.run Try.prog (storeCells ⟨blk, off + (b + t) * k, none⟩ (enc xa) 0) (wr.drew.setCells blk (off + (a + t) * k) (enc xb)) = .ok () ((wr.drew.setCells blk (off + (a + t) * k) (enc xb)).setCells blk (off + (b + t) * k) (enc xa)) :=
        stores_of_holds Try.prog (holds_setCells_c hHd ((a + t) * k) _ (by rw [HK.out, size_flatK]; exact bnd (a + t) (by omega))) ((b + t) * k) _ (by rw [HK.out, size_setMany, size_flatK]; exact bnd (b + t) (by omega)) (H1.out _)
      have hsA : (enc xa).length = k := HK.out _
      have hsB : (enc xb).length = k := HK.out _
      have HN : Hid (HoldsK enc k ((wr.drew.setCells blk (off + (a + t) * k) (enc xb)).setCells blk (off + (b + t) * k) (enc xa)) blk off (swpR d a b (t + 1))) := by
        show HoldsK _ _ _ _ _ _
        rw [swpR, HDT.out, ← hxa, ← hxb]
        exact holdsK_swp HK.out hHd (by omega) (by omega)
      clear hHd bnd HR
      obtain ⟨cA, hcA⟩ : ∃ c, c = enc xa := ⟨_, rfl⟩
      obtain ⟨cB, hcB⟩ : ∃ c, c = enc xb := ⟨_, rfl⟩
      rw [← hcA] at la hsA
      rw [← hcB] at lb hsB s1
      rw [← hcA, ← hcB] at s2 HN
      clear hcA hcB
      go_wp2_with fail
      go_big_region_o
      all_goals go_wp2_with fail
      go_roundw
      case rel => exact ⟨t + 1, by omega, by go_num, HN, hC.drew.trans ((chg_setCells blk _ _ _).trans (chg_setCells blk _ _ _) (fun _ _ h => h)) (fun _ _ h => h)⟩
      case measure => simp [RowKit.intOf]; omega
    case neg =>
      obtain rfl : t = n := by omega
      go_wp2_with fail
      go_end0
      exact ⟨rfl, by rw [HDT.out]; exact HR.out, hC⟩
end Go.Proofs.Ytkhmjlahlcighaa
