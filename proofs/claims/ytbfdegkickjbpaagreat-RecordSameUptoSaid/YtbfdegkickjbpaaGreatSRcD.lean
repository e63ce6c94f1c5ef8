/-
 RcD
-/
import Derived.Test.YtbfdegkickjbpaaGreatSRcC
namespace Go.Proofs.YtbfdegkickjbpaaGreat
open Go.RowKit Go.Lib Go.IntWalk Go.Sort Go.Shelf
/-- an expression as it lies -/
inductive RE where
 | mk (op int : Int) (val : Val) (name : ByteArray) (A : Option Addr) (c : Nat) (args : List RE)
def RE.enc : RE → List Value
 | .mk op int val name A c args => [.int .i64 op, .int .i64 int, .int .i64 val.kind, .int .i64 val.int, .string val.text, .string name, .slice A args.length c]
theorem RE.enc_length (e : RE) : e.enc.length = 7 := by cases e; rfl
/-- the first d levels of an expression lie as it says -/
def exIs : Nat → World → (Nat → Prop) → RE → Prop
 | 0, _, _, _ => True
 | d + 1, w, F, .mk _ _ val name A c args => RdE 7 RE.enc w F (.slice A args.length c) args ∧ goV val ∧ name.size ≤ maxLen ∧ ∀ a ∈ args, exIs d w F a
theorem exIs_below {w w' : World} (hb : Below w.heap.size w w') : ∀ (d : Nat) (e : RE), exIs d w (· < w.heap.size) e → exIs d w' (· < w'.heap.size) e := by
 intro d
 induction d with
 | zero => intro e _; trivial
 | succ d ih =>
  intro e h
  obtain ⟨op, it, val, nm, A, c, args⟩ := e
  obtain ⟨h1, h2, h3, h4⟩ := h
  exact ⟨h1.below hb, h2, h3, fun a ha => ih a (h4 a ha)⟩
def chP (c : UInt8) : Bool := decide (32 ≤ (c.toNat : Int) ∧ (c.toNat : Int) ≤ 126)
/-- what storedExpr answers; d: the levels that are left -/
def okX : Nat → RE → Bool
 | 0, _ => false
 | d + 1, .mk op int val name _ _ args => decide (1 ≤ op ∧ op ≤ 26) && (decide (-1125899906842624 ≤ int ∧ int ≤ 1125899906842624) && (validV val && (decide (name.size ≤ 49) && (name.data.toList.all chP && args.all (okX d)))))
end Go.Proofs.YtbfdegkickjbpaaGreat
