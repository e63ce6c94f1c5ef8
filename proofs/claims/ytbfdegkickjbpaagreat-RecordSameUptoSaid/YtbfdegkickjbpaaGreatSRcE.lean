/-
 RcE
-/
import Derived.Test.YtbfdegkickjbpaaGreatSRcD
namespace Go.Proofs.YtbfdegkickjbpaaGreat
open Go.RowKit Go.Lib Go.IntWalk Go.Sort Go.Shelf
/-- a column -/
structure RCol where
 name : ByteArray
 kind : Int
 null : Bool
def RCol.enc (x : RCol) : List Value := [.string x.name, .int .i64 x.kind, .bool x.null]
def RCol.ok (x : RCol) : Bool := nmB x.name && decide (1 ≤ x.kind ∧ x.kind ≤ 3)
/-- a foreign key as it lies -/
structure RFor where
 cA : Option Addr
 cc : Nat
 cols : List Int
 table : ByteArray
def RFor.enc (x : RFor) : List Value := [.slice x.cA x.cols.length x.cc, .string x.table]
def RFor.ok (x : RFor) : Bool := ixF x.cols && nmB x.table
def RFor.is (w : World) (F : Nat → Prop) (x : RFor) : Prop := RdE 1 intE w F (.slice x.cA x.cols.length x.cc) x.cols
/-- a table as it lies -/
structure RTab where
 name : ByteArray
 colA : Option Addr
 colC : Nat
 cols : List RCol
 keyA : Option Addr
 keyC : Nat
 key : List Int
 forA : Option Addr
 forC : Nat
 fors : List RFor
 chkA : Option Addr
 chkC : Nat
 chks : List RE
def RTab.enc (t : RTab) : List Value := [.string t.name, .slice t.colA t.cols.length t.colC, .slice t.keyA t.key.length t.keyC, .slice t.forA t.fors.length t.forC, .slice t.chkA t.chks.length t.chkC]
structure RTab.is (w : World) (F : Nat → Prop) (t : RTab) : Prop where
 cols : RdE 3 RCol.enc w F (.slice t.colA t.cols.length t.colC) t.cols
 key : RdE 1 intE w F (.slice t.keyA t.key.length t.keyC) t.key
 fors : RdE 2 RFor.enc w F (.slice t.forA t.fors.length t.forC) t.fors
 forI : ∀ x ∈ t.fors, x.is w F
 chks : RdE 7 RE.enc w F (.slice t.chkA t.chks.length t.chkC) t.chks
 chkI : ∀ x ∈ t.chks, exIs 24 w F x
theorem RTab.is.below {w w' : World} {t : RTab} (h : t.is w (· < w.heap.size)) (hb : Below w.heap.size w w') : t.is w' (· < w'.heap.size) :=
 ⟨h.cols.below hb, h.key.below hb, h.fors.below hb, fun x hx => RdE.below (h.forI x hx) hb, h.chks.below hb, fun x hx => exIs_below hb 24 x (h.chkI x hx)⟩
def RTab.ok (t : RTab) : Bool := nmB t.name && (decide (1 ≤ (t.cols.length : Int) ∧ (t.cols.length : Int) ≤ 12) && (ixF t.key && (decide (t.fors.length ≤ 4) && (decide (t.chks.length ≤ 4) && (t.cols.all RCol.ok && (t.fors.all RFor.ok && t.chks.all (okX 24)))))))
theorem RdE.bd {α : Type} {K : Nat} {enc : α → List Value} {w : World} {F : Nat → Prop} {A : Option Addr} {c : Nat} {l : List α} (h : RdE K enc w F (.slice A l.length c) l) : l.length ≤ c ∧ c ≤ 9223372036854775807 := by
 obtain ⟨A0, c0, hAc, n1, n2, n3⟩ := Rd.open_ (show Rd w F K (.slice A l.length c) l.length (l.flatMap enc) from h)
 simp only [Value.slice.injEq] at hAc
 obtain ⟨rfl, -, rfl⟩ := hAc
 unfold maxLen at n2
 exact ⟨n1, by omega⟩
end Go.Proofs.YtbfdegkickjbpaaGreat
