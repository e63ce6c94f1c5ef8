/-
  The stable sort: blocks (plain), symMerge by induction.
-/
import Derived.Test.YtkhmjlahlcighaaStabF
namespace Go.Proofs.Ytkhmjlahlcighaa
open Go.RowKit Go.Lib Go.IntWalk Go.Sort Go.Shelf

section
variable {α : Type} [Inhabited α] {lt : α → α → Bool}
/-- from a on: blocks of bs, each sorted -/
def HiB (lt : α → α → Bool) (bs a n : Nat) (d : Array α) : Prop := ∀ r, a + r * bs < n → SortedIn lt (a + r * bs) (min (a + r * bs + bs) n) d
/-- below a: whole blocks of bs, each sorted -/
def LoB (lt : α → α → Bool) (bs a : Nat) (d : Array α) : Prop := ∀ r, r * bs < a → SortedIn lt (r * bs) (r * bs + bs) d
theorem LoB.zero (lt : α → α → Bool) (bs : Nat) (d : Array α) : LoB lt bs 0 d := fun r h => by omega
theorem LoB.step {bs t b : Nat} {d d' : Array α} (h : LoB lt bs (t * bs) d) (hp : PermIn (t * bs) b d d') (hb : b = t * bs + bs) (hs : SortedIn lt (t * bs) b d') : LoB lt bs ((t + 1) * bs) d' := by
  intro r hr
  by_cases c : r = t
  · subst c; rw [← hb]; exact hs
  · have h1 : r < t + 1 := Nat.lt_of_mul_lt_mul_right hr
    have h2 : (r + 1) * bs ≤ t * bs := Nat.mul_le_mul_right bs (by omega)
    rw [Nat.succ_mul] at h2
    by_cases hz : bs = 0
    · subst hz; intro i j g1 g2 g3; omega
    · exact SortedIn.congr (h r (by omega)) (fun x g1 g2 => hp.2.1 x (.inl (by omega)))
theorem HiB.next {bs a n b : Nat} {d d' : Array α} (h : HiB lt bs a n d) (hb : b = a + 2 * bs) (hp : PermIn a b d d') : HiB lt bs b n d' := by
  intro r hr
  have e : b + r * bs = a + (r + 2) * bs := by rw [Nat.add_mul]; omega
  rw [e] at hr ⊢
  exact SortedIn.congr (h (r + 2) hr) (fun x g1 g2 => hp.2.1 x (.inr (by omega)))
theorem HiB.of {bs t n : Nat} {d d' : Array α} (h : LoB lt bs (t * bs) d) (hp : PermIn (t * bs) n d d') (hn : n < t * bs + bs) (hs : SortedIn lt (t * bs) n d') : HiB lt bs 0 n d' := by
  intro r hr
  rw [Nat.zero_add] at hr ⊢
  by_cases c : r = t
  · subst c; exact SortedIn.sub hs (Nat.le_refl _) (by omega)
  · by_cases c2 : r < t
    · have h2 : (r + 1) * bs ≤ t * bs := Nat.mul_le_mul_right bs (by omega)
      rw [Nat.succ_mul] at h2
      by_cases hz : bs = 0
      · subst hz; intro i j g1 g2 g3; omega
      · exact SortedIn.sub (SortedIn.congr (h r (by omega)) (fun x g1 g2 => hp.2.1 x (.inl (by omega)))) (Nat.le_refl _) (by omega)
    · have h2 : (t + 1) * bs ≤ r * bs := Nat.mul_le_mul_right bs (by omega)
      rw [Nat.succ_mul] at h2
      omega
end
theorem sym_any {α : Type} [Inhabited α] (enc : α → List Value) (k : Nat) (aE : ∀ w, (isAgg 38).run Try.prog w = .ok true w) (zE : ∀ w, (Go.sizeOf 38).run Try.prog w = .ok k w) (hk : ∀ x, (enc x).length = k) (h1 : ∀ x, ∀ v ∈ enc x, v.oneCell' = true) (cf : α → α → Int) (hcmp : CmpB enc cf) (S : SWO (ltOf cf)) (blk off cap sz : Nat) (hsz : sz < 4611686018427387904) :
    ∀ (n a m b : Nat) (d : Array α) (_ : d.size = sz) (w : World), HoldsK enc k w blk off d → blk < w.heap.size → a < m → m < b → b ≤ d.size → SortedIn (ltOf cf) a m d → SortedIn (ltOf cf) m b d → b - a < n → Calls Try.prog 33 #[.slice (some ⟨blk, off, none⟩) sz cap, .int .i64 a, .int .i64 m, .int .i64 b, .func (.func 17) #[] #[]] w (SymOut (ltOf cf) enc k blk off a b d w) := by
  intro n
  induction n with
  | zero => intro a m b d _ w _ _ _ _ _ _ _ h; omega
  | succ n ih =>
    intro a m b d hz w hH hblk ham hmb hb hs1 hs2 hn
    by_cases c1 : m = a + 1
    · exact sym1_any enc k aE zE hk h1 cf hcmp S blk off cap a m b sz d hz w hH hblk ham hmb hb (by omega) hs1 hs2 c1
    · by_cases c2 : b = m + 1
      · exact sym2_any enc k aE zE hk h1 cf hcmp S blk off cap a m b sz d hz w hH hblk ham hmb hb (by omega) hs1 hs2 c2 c1
      · exact sym3_any enc k aE zE hk h1 cf hcmp S blk off cap a m b sz d hz w hH hblk ham hmb hb (by omega) hs1 hs2 c1 c2 n (Lib.hid ih) (by omega)
end Go.Proofs.Ytkhmjlahlcighaa
