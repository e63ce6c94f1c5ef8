/-
 RcB
-/
import Derived.Test.YtbfdegkickjbpaaGreatSRcA
namespace Go.Proofs.YtbfdegkickjbpaaGreat
open Go.RowKit Go.Lib Go.IntWalk Go.Sort Go.Shelf
/-- a fact as it lies -/
structure RF where
 rA : Option Addr
 rn : Nat
 rc : Nat
 row : List Val
 vf : Int
 vt : Int
def RF.enc (p : RF) : List Value := [.slice p.rA p.rn p.rc, .int .i64 p.vf, .int .i64 p.vt]
def RF.is (w : World) (F : Nat → Prop) (p : RF) : Prop := RdV w F (.slice p.rA p.rn p.rc) p.row ∧ ∀ v ∈ p.row, goV v
def RdFs (w : World) (F : Nat → Prop) (v : Value) (ps : List RF) : Prop := RdE 3 RF.enc w F v ps ∧ ∀ p ∈ ps, p.is w F
theorem RdFs.below {w w' : World} {v : Value} {ps : List RF} (h : RdFs w (· < w.heap.size) v ps) (hb : Below w.heap.size w w') : RdFs w' (· < w'.heap.size) v ps :=
 ⟨h.1.below hb, fun p hp => ⟨(Rd.keep (h.2 p hp).1 (Keeps.below hb)).wide (fun b (hb' : b < w.heap.size) => by show b < w'.heap.size; have := hb.size; omega), (h.2 p hp).2⟩⟩
def intE (n : Int) : List Value := [.int .i64 n]
end Go.Proofs.YtbfdegkickjbpaaGreat
