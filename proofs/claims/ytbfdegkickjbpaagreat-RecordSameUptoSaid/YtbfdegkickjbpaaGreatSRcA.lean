/-
 RcA
-/
import Derived.Test.YtbfdegkickjbpaaGreatSWkA
namespace Go.Proofs.YtbfdegkickjbpaaGreat
open Go.RowKit Go.Lib Go.IntWalk Go.Sort Go.Shelf
def RdE {α : Type} (K : Nat) (enc : α → List Value) (w : World) (F : Nat → Prop) (v : Value) (l : List α) : Prop := Rd w F K v l.length (l.flatMap enc)
theorem RdE.at_ {α : Type} {K : Nat} {enc : α → List Value} {w : World} {F : Nat → Prop} {A : Option Addr} {c : Nat} {l : List α} (hK : ∀ x, (enc x).length = K) (h0 : 0 < K) (h : RdE K enc w F (.slice A l.length c) l) {k : Nat} (hk : k < l.length) :
  ∃ b off, A = some ⟨b, off, none⟩ ∧ F b ∧ ∀ i (hi : i < l.length) j u, j < K → (enc l[i])[j]? = some u → w.cell? ⟨b, off + i * K + j, none⟩ = some u := by
 obtain ⟨b, off, rfl, hF, hc⟩ := Rd.plain h (by omega) h0
 refine ⟨b, off, rfl, hF, fun i hi j u hj hu => ?_⟩
 rw [Nat.add_assoc]
 exact hc (i * K + j) u (by rw [flat_getC K l enc (fun x _ => hK x) i j hj _ (List.getElem?_eq_getElem hi)]; exact hu)
theorem RdE.keep {α : Type} {K : Nat} {enc : α → List Value} {w w' : World} {F : Nat → Prop} {v : Value} {l : List α} (h : RdE K enc w F v l) (hk : Keeps F w w') : RdE K enc w' F v l := Rd.keep (show Rd w F K v l.length (l.flatMap enc) from h) hk
theorem RdE.wide {α : Type} {K : Nat} {enc : α → List Value} {w : World} {F G : Nat → Prop} {v : Value} {l : List α} (h : RdE K enc w F v l) (hk : ∀ b, F b → G b) : RdE K enc w G v l := Rd.wide (show Rd w F K v l.length (l.flatMap enc) from h) hk
theorem RdE.below {α : Type} {K : Nat} {enc : α → List Value} {w w' : World} {v : Value} {l : List α} (h : RdE K enc w (· < w.heap.size) v l) (hb : Below w.heap.size w w') : RdE K enc w' (· < w'.heap.size) v l :=
 (h.keep (Keeps.below hb)).wide fun _ h => Nat.lt_of_lt_of_le h hb.size
def instB (n : Int) : Bool := decide (0 ≤ n ∧ n ≤ 1099511627775)
structure Hld where
 name : ByteArray
 table : ByteArray
 vf : Int
 vt : Int
 sf : Int
 st : Int
structure Pol where
 table : ByteArray
 keep : Int
structure Hor where
 table : ByteArray
 time : Int
def nmB (s : ByteArray) : Bool := nmW s.data.toList
def Hld.enc (x : Hld) : List Value := [.string x.name, .string x.table, .int .i64 x.vf, .int .i64 x.vt, .int .i64 x.sf, .int .i64 x.st]
def Pol.enc (x : Pol) : List Value := [.string x.table, .int .i64 x.keep]
def Hor.enc (x : Hor) : List Value := [.string x.table, .int .i64 x.time]
def strE (s : ByteArray) : List Value := [.string s]
def Hld.ok (x : Hld) : Bool := nmB x.name && (nmB x.table && (validP x.vf x.vt && validP x.sf x.st))
def Pol.ok (x : Pol) : Bool := nmB x.table && decide (0 ≤ x.keep ∧ x.keep ≤ 1099511627776)
def Hor.ok (x : Hor) : Bool := nmB x.table && instB x.time
end Go.Proofs.YtbfdegkickjbpaaGreat
