/-
 TnB
-/
import Derived.Test.YtbfdegkickjbpaaGreatTTnA
import Derived.Test.YtbfdegkickjbpaaGreatTRvA
namespace Go.Proofs.YtbfdegkickjbpaaGreat
open Go.RowKit Go.Lib Go.IntWalk Go.Sort Go.Shelf
/-- the bytes b are read as a -/
def Put {α : Type} (rd : Rdn α) (b : List UInt8) (a : α) : Prop := b.length ≤ 9223372036854775807 → ∀ pre suf : List UInt8, rd (pre ++ (b ++ suf)) ((pre.length : Int), 0) = (a, ((pre ++ b).length : Int), 0)
theorem Put.sq {α β : Type} {r1 : Rdn α} {r2 : α → Rdn β} {b1 b2 : List UInt8} {a1 : α} {a2 : β} (h1 : Put r1 b1 a1) (h2 : Put (r2 a1) b2 a2) : Put (sq r1 r2) (b1 ++ b2) a2 := by
 intro hl pre suf
 rw [List.length_append] at hl
 have e1 := h1 (by omega) pre (b2 ++ suf)
 have e2 := h2 (by omega) (pre ++ b1) suf
 have el : pre ++ ((b1 ++ b2) ++ suf) = pre ++ (b1 ++ (b2 ++ suf)) := by simp only [List.append_assoc]
 have er : (pre ++ b1) ++ (b2 ++ suf) = pre ++ (b1 ++ (b2 ++ suf)) := by simp only [List.append_assoc]
 rw [er] at e2
 show r2 _ _ _ = _
 rw [el, e1, e2]
 simp only [List.append_assoc]
theorem Put.mp {α β : Type} {r : Rdn α} {b : List UInt8} {a : α} (h : Put r b a) (f : α → β) : Put (mp f r) b (f a) := by
 intro hl pre suf
 show (f _, _) = _
 rw [h hl pre suf]
theorem put_S {α : Type} {dec : List UInt8 → Int → α × Int × Int} {z a : α} {b : List UInt8} (h : ∀ pre suf : List UInt8, dec (pre ++ (b ++ suf)) (pre.length : Int) = (a, ((pre ++ b).length : Int), 0)) : Put (fun l => rdS (dec l) z) b a := by
 intro _ pre suf
 simp only [rdS, h pre suf, ne_eq, not_true_eq_false, if_false, if_true]
theorem put_I {n : Int} (h1 : -9223372036854775808 ≤ n) (h2 : n ≤ 9223372036854775807) : Put rdI (encI n) n := put_S (fun pre suf => decI_put pre suf n h1 h2)
theorem put_V {x : Val} (h : validV x = true) : Put rdV (encV x) x := put_S (fun pre suf => decV_put pre suf x h)
theorem put_R {xs : List Val} (h : xs.all validV = true) (hn : xs.length ≤ 12) : Put rdR (encR xs) xs := put_S (fun pre suf => decR_put pre suf xs h hn)
theorem put_T {s : ByteArray} (h : s.size ≤ 200) : Put rdT (encI s.size ++ s.data.toList) s := by
 refine put_S (fun pre suf => ?_)
 have e := decT_put pre suf s.data.toList 200 (by rw [Array.length_toList]; show (s.size : Int) ≤ 200; omega) (by rw [Array.length_toList]; show s.size ≤ _; omega)
 rw [Array.length_toList] at e
 simp only [show s.data.size = s.size from rfl] at e
 simp only [List.append_assoc]
 rw [e, strB_of]
theorem put_P {f t : Int} (h : validP f t = true) (h1 : -9223372036854775808 ≤ f ∧ f ≤ 9223372036854775807) (h2 : -9223372036854775808 ≤ t ∧ t ≤ 9223372036854775807) : Put rdP (encI f ++ encI t) (f, t) := by
 refine put_S (fun pre suf => ?_)
 have e1 := decI_put pre (encI t ++ suf) f h1.1 h1.2
 have e2 := decI_put (pre ++ encI f) suf t h2.1 h2.2
 simp only [List.append_assoc] at e1 e2 ⊢
 unfold decP
 rw [e1]
 simp only [ne_eq, not_true_eq_false, if_false]
 rw [e2]
 simp [h]
theorem put_pos {α : Type} {rd : Rdn α} {b : List UInt8} {a : α} (h : Put rd b a) (hm : ∀ l, Mon l (rd l)) : 0 < b.length := by
 rcases Nat.lt_or_ge 9223372036854775807 b.length with hb | hb
 ·omega
 ·have e := h hb [] []
  simp only [List.nil_append, List.append_nil, List.length_nil] at e
  have g := hm b (((0 : Nat) : Int), 0) (by rw [e])
  rw [e] at g
  have := g.2.1
  simp only at this
  omega
theorem put_getS {α : Type} {rd : Rdn α} {enc : α → List UInt8} {er : α → α} : ∀ (xs : List α), (∀ x ∈ xs, Put rd (enc x) (er x)) → (xs.flatMap enc).length ≤ 9223372036854775807 → ∀ pre suf : List UInt8, getS (rd (pre ++ (xs.flatMap enc ++ suf))) xs.length ((pre.length : Int), 0) = (xs.map er, ((pre ++ xs.flatMap enc).length : Int), 0)
 | [], _, _, pre, suf => by simp [getS]
 | x :: r, h, hl, pre, suf => by
  rw [List.flatMap_cons, List.length_append] at hl
  have e1 := h x (List.mem_cons_self ..) (by omega) pre (r.flatMap enc ++ suf)
  have e2 := put_getS r (fun y hy => h y (List.mem_cons_of_mem _ hy)) (by omega) (pre ++ enc x) suf
  simp only [List.append_assoc] at e2
  rw [List.flatMap_cons, List.append_assoc, List.length_cons, getS_step (one := rd (pre ++ (enc x ++ (r.flatMap enc ++ suf)))) rfl e1, e2]
  simp only [List.map_cons]
theorem flat_pos {α : Type} {enc : α → List UInt8} : ∀ (xs : List α), (∀ x ∈ xs, 0 < (enc x).length) → xs.length ≤ (xs.flatMap enc).length
 | [], _ => Nat.zero_le _
 | x :: r, h => by
  have h1 := h x (List.mem_cons_self ..)
  have h2 := flat_pos r (fun y hy => h y (List.mem_cons_of_mem _ hy))
  rw [List.flatMap_cons, List.length_append, List.length_cons]
  omega
theorem put_L {α : Type} {rd : Rdn α} {enc : α → List UInt8} {er : α → α} (xs : List α) (h : ∀ x ∈ xs, Put rd (enc x) (er x)) (hm : ∀ l, Mon l (rd l)) : Put (fun l => rdL l (rd l)) (encI xs.length ++ xs.flatMap enc) (xs.map er) := by
 intro hl pre suf
 rw [List.length_append] at hl
 have hn := flat_pos xs (fun x hx => put_pos (h x hx) hm)
 have e1 := put_I (n := (xs.length : Int)) (by omega) (by omega) (by omega) pre (xs.flatMap enc ++ suf)
 have e2 := put_getS xs h (by omega) (pre ++ encI xs.length) suf
 simp only [List.append_assoc] at e1 e2 ⊢
 unfold rdL
 rw [e1]
 simp only
 rw [if_neg (by omega), show ((xs.length : Int)).toNat = xs.length by omega, e2]
theorem put_L0 {α : Type} {rd : Rdn α} {enc : α → List UInt8} (xs : List α) (h : ∀ x ∈ xs, Put rd (enc x) x) (hm : ∀ l, Mon l (rd l)) : Put (fun l => rdL l (rd l)) (encI xs.length ++ xs.flatMap enc) xs := by
 have k := put_L (er := id) xs h hm
 rw [List.map_id] at k
 exact k
end Go.Proofs.YtbfdegkickjbpaaGreat
