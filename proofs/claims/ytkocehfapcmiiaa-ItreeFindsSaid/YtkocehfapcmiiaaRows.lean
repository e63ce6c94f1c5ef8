/-
  No cell of these rows narrows 'for every input' (looked for: loops, veiled, ifaces, maps, wideKeys, modest, calm, conditions, laid).
  DERIVED. THE GIVEN ROWS OF THIS SEAT. 6 by the template 'for every input the law returns true; each argument reads behind the call as it read before'; 0 by the template 'total and deterministic' (their statements: YtkocehfapcmiiaaTotals.lean).
  GIVEN WITH THE SEED: the statements are not yours to turn. If you find one false, say at which input.
  Laid BY PROGRAM, IN A SANDBOX (cutbox-rows.mjs): the forced cells as the released guide's own fill.sh prints them over the translation 8e0e22fcf272401d… (all of the seat's roots in one cut). By AI agents, Wed Nov 11 2026. No macro, syntax, notation, axiom, sorry.
-/
import Derived.Test.YtkocehfapcmiiaaChecked
import GoSem.Claim
import GoSem.ClaimJoined
import GoSem.ClaimMapViews
import Derived.JoinedTies
import Derived.KernelRfl
namespace Go.Proofs.Ytkocehfapcmiiaa
/- THE CELL 'sum', in the pinned program and in every row, IS THE sha256 OF THE DUMP (.gsa) THAT YtkocehfapcmiiaaProg.lean LOADS. Nothing in Lean hashes anything: it is a label: what it is worth is what the hold of that sum in a sandbox is worth. -/
noncomputable def Try.pinned : Pinned := { name := "ytkocehfapcmiiaa", sum := "8e0e22fcf272401d84eb6cbabc7268ef37ff0f7d5131d913971895508e10ce97", checked := Try.checked }
namespace Rows
def none {H : Type} : Left H := { results := [], args := [] }

/-- 'bitemporallaw29.ItreeInstants': WHATEVER THE INPUT: true; the input reads as it did. -/
def itreeInstantsSpec : ChangeSpec := { name := "itreeInstants", fn := fun _ => fun
  | [d1, d2, d3] => { results := [.lit (.bool true)], args := [d1, d2, d3] }
  | _ => none }
def itreeInstantsRow : OpenClaim := { program := "ytkocehfapcmiiaa", sum := "8e0e22fcf272401d84eb6cbabc7268ef37ff0f7d5131d913971895508e10ce97", func := "bitemporal/bitemporallaw29.ItreeInstants", spec := "itreeInstants", unfollowed := true, recurses := true, apart := false }
def ItreeInstantsSaid : Prop := itreeInstantsRow.holds Try.pinned (OpenSpec.ofChange itreeInstantsSpec)

/-- ITS FALSE NEIGHBOUR: 'it returns false'. Refute it at one input. -/
def itreeInstantsWrong : ChangeSpec := { name := "itreeInstants", fn := fun _ => fun
  | [d1, d2, d3] => { results := [.lit (.bool false)], args := [d1, d2, d3] }
  | _ => none }
def ItreeInstantsWrongFalsely : Prop := itreeInstantsRow.holds Try.pinned (OpenSpec.ofChange itreeInstantsWrong)

/-- 'bitemporallaw29.ItreeFinds': WHATEVER THE INPUT: true; the input reads as it did. -/
def itreeFindsSpec : ChangeSpec := { name := "itreeFinds", fn := fun _ => fun
  | [d1, d2, d3] => { results := [.lit (.bool true)], args := [d1, d2, d3] }
  | _ => none }
def itreeFindsRow : OpenClaim := { program := "ytkocehfapcmiiaa", sum := "8e0e22fcf272401d84eb6cbabc7268ef37ff0f7d5131d913971895508e10ce97", func := "bitemporal/bitemporallaw29.ItreeFinds", spec := "itreeFinds", unfollowed := true, recurses := true, apart := false }
def ItreeFindsSaid : Prop := itreeFindsRow.holds Try.pinned (OpenSpec.ofChange itreeFindsSpec)

/-- ITS FALSE NEIGHBOUR: 'it returns false'. Refute it at one input. -/
def itreeFindsWrong : ChangeSpec := { name := "itreeFinds", fn := fun _ => fun
  | [d1, d2, d3] => { results := [.lit (.bool false)], args := [d1, d2, d3] }
  | _ => none }
def ItreeFindsWrongFalsely : Prop := itreeFindsRow.holds Try.pinned (OpenSpec.ofChange itreeFindsWrong)

/-- 'bitemporallaw29.ItreeHeight': WHATEVER THE INPUT: true; the input reads as it did. -/
def itreeHeightSpec : ChangeSpec := { name := "itreeHeight", fn := fun _ => fun
  | [d] => { results := [.lit (.bool true)], args := [d] }
  | _ => none }
def itreeHeightRow : OpenClaim := { program := "ytkocehfapcmiiaa", sum := "8e0e22fcf272401d84eb6cbabc7268ef37ff0f7d5131d913971895508e10ce97", func := "bitemporal/bitemporallaw29.ItreeHeight", spec := "itreeHeight", unfollowed := true, recurses := true, apart := false }
def ItreeHeightSaid : Prop := itreeHeightRow.holds Try.pinned (OpenSpec.ofChange itreeHeightSpec)

/-- ITS FALSE NEIGHBOUR: 'it returns false'. Refute it at one input. -/
def itreeHeightWrong : ChangeSpec := { name := "itreeHeight", fn := fun _ => fun
  | [d] => { results := [.lit (.bool false)], args := [d] }
  | _ => none }
def ItreeHeightWrongFalsely : Prop := itreeHeightRow.holds Try.pinned (OpenSpec.ofChange itreeHeightWrong)

/-- 'bitemporallaw29.ItreeActs': WHATEVER THE INPUT: true; the input reads as it did. -/
def itreeActsSpec : ChangeSpec := { name := "itreeActs", fn := fun _ => fun
  | [d] => { results := [.lit (.bool true)], args := [d] }
  | _ => none }
def itreeActsRow : OpenClaim := { program := "ytkocehfapcmiiaa", sum := "8e0e22fcf272401d84eb6cbabc7268ef37ff0f7d5131d913971895508e10ce97", func := "bitemporal/bitemporallaw29.ItreeActs", spec := "itreeActs", unfollowed := true, recurses := true, apart := false }
def ItreeActsSaid : Prop := itreeActsRow.holds Try.pinned (OpenSpec.ofChange itreeActsSpec)

/-- ITS FALSE NEIGHBOUR: 'it returns false'. Refute it at one input. -/
def itreeActsWrong : ChangeSpec := { name := "itreeActs", fn := fun _ => fun
  | [d] => { results := [.lit (.bool false)], args := [d] }
  | _ => none }
def ItreeActsWrongFalsely : Prop := itreeActsRow.holds Try.pinned (OpenSpec.ofChange itreeActsWrong)

/-- 'bitemporallaw29.ItreeOrder': WHATEVER THE INPUT: true; the input reads as it did. -/
def itreeOrderSpec : ChangeSpec := { name := "itreeOrder", fn := fun _ => fun
  | [d1, d2, d3, d4] => { results := [.lit (.bool true)], args := [d1, d2, d3, d4] }
  | _ => none }
def itreeOrderRow : OpenClaim := { program := "ytkocehfapcmiiaa", sum := "8e0e22fcf272401d84eb6cbabc7268ef37ff0f7d5131d913971895508e10ce97", func := "bitemporal/bitemporallaw29.ItreeOrder", spec := "itreeOrder", unfollowed := true, recurses := true, apart := false }
def ItreeOrderSaid : Prop := itreeOrderRow.holds Try.pinned (OpenSpec.ofChange itreeOrderSpec)

/-- ITS FALSE NEIGHBOUR: 'it returns false'. Refute it at one input. -/
def itreeOrderWrong : ChangeSpec := { name := "itreeOrder", fn := fun _ => fun
  | [d1, d2, d3, d4] => { results := [.lit (.bool false)], args := [d1, d2, d3, d4] }
  | _ => none }
def ItreeOrderWrongFalsely : Prop := itreeOrderRow.holds Try.pinned (OpenSpec.ofChange itreeOrderWrong)

/-- 'bitemporallaw29.ItreeNil': WHATEVER THE INPUT: true; the input reads as it did. -/
def itreeNilSpec : ChangeSpec := { name := "itreeNil", fn := fun _ => fun
  | [d] => { results := [.lit (.bool true)], args := [d] }
  | _ => none }
def itreeNilRow : OpenClaim := { program := "ytkocehfapcmiiaa", sum := "8e0e22fcf272401d84eb6cbabc7268ef37ff0f7d5131d913971895508e10ce97", func := "bitemporal/bitemporallaw29.ItreeNil", spec := "itreeNil", unfollowed := true, recurses := true, apart := false }
def ItreeNilSaid : Prop := itreeNilRow.holds Try.pinned (OpenSpec.ofChange itreeNilSpec)

/-- ITS FALSE NEIGHBOUR: 'it returns false'. Refute it at one input. -/
def itreeNilWrong : ChangeSpec := { name := "itreeNil", fn := fun _ => fun
  | [d] => { results := [.lit (.bool false)], args := [d] }
  | _ => none }
def ItreeNilWrongFalsely : Prop := itreeNilRow.holds Try.pinned (OpenSpec.ofChange itreeNilWrong)

/- THE SECOND FORM. 'bulk': how many values and letters a reading holds, each counted each time it is reached (what is shared counts as often as it is met; a slice's spare places count too). A statement '..UptoSaid' is the law's where the arguments, and the package variables that the reading takes, are together of bulk at most 1048576: NARROWER than '..Said'. Prove '..Said' where nothing that the law and all that it calls make is longer than what came in: it says more and counts as full. Else prove '..UptoSaid'. A law counts once. -/
mutual
def uptoBulk {H : Type} : DataW H → Nat
  | .lit (.string bytes) => bytes.length + 1
  | .lit _ => 1
  | .nil => 1
  | .ptr d => uptoBulk d + 1
  | .slice elems spare => uptoBulkAll elems + uptoBulkAll spare + 1
  | .agg parts => uptoBulkAll parts + 1
  | .iface _ d => uptoBulk d + 1
  | .map entries => uptoBulkEntries entries + 1
  | .held _ => 1
def uptoBulkAll {H : Type} : List (DataW H) → Nat
  | [] => 0
  | d :: r => uptoBulk d + uptoBulkAll r
def uptoBulkEntries {H : Type} : List (Lit × DataW H) → Nat
  | [] => 0
  | x :: r => uptoBulkEntry x + uptoBulkEntries r
def uptoBulkEntry {H : Type} : Lit × DataW H → Nat
  | (.string bytes, d) => bytes.length + uptoBulk d + 1
  | (_, d) => uptoBulk d + 1
 end
def uptoSmall : (H : Type) → List (DataW H) → Bool := fun _ ds => decide (uptoBulkAll ds ≤ 1048576)
def OpenSpec.upto (s : _root_.Go.ChangeSpec) : _root_.Go.OpenSpec := { _root_.Go.OpenSpec.ofChange s with cond := some uptoSmall }

/-- 'bitemporallaw29.ItreeInstants', WHERE WHAT IT READS IS OF BULK AT MOST 1048576: true; the input reads as it did. -/
def itreeInstantsUptoRow : OpenClaim := { program := "ytkocehfapcmiiaa", sum := "8e0e22fcf272401d84eb6cbabc7268ef37ff0f7d5131d913971895508e10ce97", func := "bitemporal/bitemporallaw29.ItreeInstants", spec := "itreeInstants", unfollowed := true, recurses := true, apart := false, narrowed := true }
def ItreeInstantsUptoSaid : Prop := itreeInstantsUptoRow.holds Try.pinned (OpenSpec.upto itreeInstantsSpec)

/-- 'bitemporallaw29.ItreeFinds', WHERE WHAT IT READS IS OF BULK AT MOST 1048576: true; the input reads as it did. -/
def itreeFindsUptoRow : OpenClaim := { program := "ytkocehfapcmiiaa", sum := "8e0e22fcf272401d84eb6cbabc7268ef37ff0f7d5131d913971895508e10ce97", func := "bitemporal/bitemporallaw29.ItreeFinds", spec := "itreeFinds", unfollowed := true, recurses := true, apart := false, narrowed := true }
def ItreeFindsUptoSaid : Prop := itreeFindsUptoRow.holds Try.pinned (OpenSpec.upto itreeFindsSpec)

/-- 'bitemporallaw29.ItreeHeight', WHERE WHAT IT READS IS OF BULK AT MOST 1048576: true; the input reads as it did. -/
def itreeHeightUptoRow : OpenClaim := { program := "ytkocehfapcmiiaa", sum := "8e0e22fcf272401d84eb6cbabc7268ef37ff0f7d5131d913971895508e10ce97", func := "bitemporal/bitemporallaw29.ItreeHeight", spec := "itreeHeight", unfollowed := true, recurses := true, apart := false, narrowed := true }
def ItreeHeightUptoSaid : Prop := itreeHeightUptoRow.holds Try.pinned (OpenSpec.upto itreeHeightSpec)

/-- 'bitemporallaw29.ItreeActs', WHERE WHAT IT READS IS OF BULK AT MOST 1048576: true; the input reads as it did. -/
def itreeActsUptoRow : OpenClaim := { program := "ytkocehfapcmiiaa", sum := "8e0e22fcf272401d84eb6cbabc7268ef37ff0f7d5131d913971895508e10ce97", func := "bitemporal/bitemporallaw29.ItreeActs", spec := "itreeActs", unfollowed := true, recurses := true, apart := false, narrowed := true }
def ItreeActsUptoSaid : Prop := itreeActsUptoRow.holds Try.pinned (OpenSpec.upto itreeActsSpec)

/-- 'bitemporallaw29.ItreeOrder', WHERE WHAT IT READS IS OF BULK AT MOST 1048576: true; the input reads as it did. -/
def itreeOrderUptoRow : OpenClaim := { program := "ytkocehfapcmiiaa", sum := "8e0e22fcf272401d84eb6cbabc7268ef37ff0f7d5131d913971895508e10ce97", func := "bitemporal/bitemporallaw29.ItreeOrder", spec := "itreeOrder", unfollowed := true, recurses := true, apart := false, narrowed := true }
def ItreeOrderUptoSaid : Prop := itreeOrderUptoRow.holds Try.pinned (OpenSpec.upto itreeOrderSpec)

/-- 'bitemporallaw29.ItreeNil', WHERE WHAT IT READS IS OF BULK AT MOST 1048576: true; the input reads as it did. -/
def itreeNilUptoRow : OpenClaim := { program := "ytkocehfapcmiiaa", sum := "8e0e22fcf272401d84eb6cbabc7268ef37ff0f7d5131d913971895508e10ce97", func := "bitemporal/bitemporallaw29.ItreeNil", spec := "itreeNil", unfollowed := true, recurses := true, apart := false, narrowed := true }
def ItreeNilUptoSaid : Prop := itreeNilUptoRow.holds Try.pinned (OpenSpec.upto itreeNilSpec)

end Rows
end Go.Proofs.Ytkocehfapcmiiaa
