/-
  No cell of these rows narrows 'for every input' (looked for: loops, veiled, ifaces, maps, wideKeys, modest, calm, conditions, laid).
  DERIVED. THE GIVEN ROWS OF THIS SEAT. 3 by the template 'for every input the law returns true; each argument reads behind the call as it read before'; 0 by the template 'total and deterministic' (their statements: YtacjiocffbgkkaaGreatTotals.lean).
  GIVEN WITH THE SEED: the statements are not yours to turn. If you find one false, say at which input.
  Laid BY PROGRAM, IN A SANDBOX (cutbox-rows.mjs): the forced cells as the released guide's own fill.sh prints them over the translation efd30fe744dfadf6… (all of the seat's roots in one cut). By AI agents, Wed Nov 11 2026. No macro, syntax, notation, axiom, sorry.
-/
import Derived.Test.YtacjiocffbgkkaaGreatChecked
import GoSem.Claim
import GoSem.ClaimJoined
import GoSem.ClaimMapViews
import Derived.JoinedTies
import Derived.KernelRfl
namespace Go.Proofs.YtacjiocffbgkkaaGreat
/- THE CELL 'sum', in the pinned program and in every row, IS THE sha256 OF THE DUMP (.gsa) THAT YtacjiocffbgkkaaGreatProg.lean LOADS. Nothing in Lean hashes anything: it is a label: what it is worth is what the hold of that sum in a sandbox is worth. -/
noncomputable def Tryz.pinned : Pinned := { name := "ytacjiocffbgkkaagreat", sum := "efd30fe744dfadf6544c59a272aafe08d585b1a33e72d8e494fb398f89559a6a", checked := Tryz.checked }
namespace Rows
def none {H : Type} : Left H := { results := [], args := [] }

/-- 'bitemporallaw37.SegmentSearch': WHATEVER THE INPUT: true; the input reads as it did. -/
def segmentSearchSpec : ChangeSpec := { name := "segmentSearch", fn := fun _ => fun
  | [d1, d2, d3] => { results := [.lit (.bool true)], args := [d1, d2, d3] }
  | _ => none }
def segmentSearchRow : OpenClaim := { program := "ytacjiocffbgkkaagreat", sum := "efd30fe744dfadf6544c59a272aafe08d585b1a33e72d8e494fb398f89559a6a", func := "bitemporal/bitemporallaw37.SegmentSearch", spec := "segmentSearch", unfollowed := true, recurses := true, apart := false }
def SegmentSearchSaid : Prop := segmentSearchRow.holds Tryz.pinned (OpenSpec.ofChange segmentSearchSpec)

/-- ITS FALSE NEIGHBOUR: 'it returns false'. Refute it at one input. -/
def segmentSearchWrong : ChangeSpec := { name := "segmentSearch", fn := fun _ => fun
  | [d1, d2, d3] => { results := [.lit (.bool false)], args := [d1, d2, d3] }
  | _ => none }
def SegmentSearchWrongFalsely : Prop := segmentSearchRow.holds Tryz.pinned (OpenSpec.ofChange segmentSearchWrong)

/-- 'bitemporallaw37.SegmentOpen': WHATEVER THE INPUT: true; the input reads as it did. -/
def segmentOpenSpec : ChangeSpec := { name := "segmentOpen", fn := fun _ => fun
  | [d] => { results := [.lit (.bool true)], args := [d] }
  | _ => none }
def segmentOpenRow : OpenClaim := { program := "ytacjiocffbgkkaagreat", sum := "efd30fe744dfadf6544c59a272aafe08d585b1a33e72d8e494fb398f89559a6a", func := "bitemporal/bitemporallaw37.SegmentOpen", spec := "segmentOpen", unfollowed := true, recurses := true, apart := false }
def SegmentOpenSaid : Prop := segmentOpenRow.holds Tryz.pinned (OpenSpec.ofChange segmentOpenSpec)

/-- ITS FALSE NEIGHBOUR: 'it returns false'. Refute it at one input. -/
def segmentOpenWrong : ChangeSpec := { name := "segmentOpen", fn := fun _ => fun
  | [d] => { results := [.lit (.bool false)], args := [d] }
  | _ => none }
def SegmentOpenWrongFalsely : Prop := segmentOpenRow.holds Tryz.pinned (OpenSpec.ofChange segmentOpenWrong)

/-- 'bitemporallaw35.RecordVersions': WHATEVER THE INPUT: true; the input reads as it did. -/
def recordVersionsSpec : ChangeSpec := { name := "recordVersions", fn := fun _ => fun
  | [d1, d2] => { results := [.lit (.bool true)], args := [d1, d2] }
  | _ => none }
def recordVersionsRow : OpenClaim := { program := "ytacjiocffbgkkaagreat", sum := "efd30fe744dfadf6544c59a272aafe08d585b1a33e72d8e494fb398f89559a6a", func := "bitemporal/bitemporallaw35.RecordVersions", spec := "recordVersions", unfollowed := true, recurses := true, apart := false }
def RecordVersionsSaid : Prop := recordVersionsRow.holds Tryz.pinned (OpenSpec.ofChange recordVersionsSpec)

/-- ITS FALSE NEIGHBOUR: 'it returns false'. Refute it at one input. -/
def recordVersionsWrong : ChangeSpec := { name := "recordVersions", fn := fun _ => fun
  | [d1, d2] => { results := [.lit (.bool false)], args := [d1, d2] }
  | _ => none }
def RecordVersionsWrongFalsely : Prop := recordVersionsRow.holds Tryz.pinned (OpenSpec.ofChange recordVersionsWrong)

/- THE SECOND FORM. 'bulk': how many values and letters a reading holds, each counted each time it is reached (what is shared counts as often as it is met; a slice's spare places count too). A statement '..UptoSaid' is the law's where the arguments, and the package variables that the reading takes, are together of bulk at most 1048576: NARROWER than '..Said'. Prove '..Said' where nothing that the law and all that it calls make is longer than what came in: it says more and counts as full. Else prove '..UptoSaid'. A law counts once. -/
mutual
def uptoBulk {H : Type} : DataW H → Nat
  | .lit (.string bytes) => bytes.length + 1
  | .lit _ => 1
  | .nil => 1
  | .ptr d => uptoBulk d + 1
  | .slice elems spare => uptoBulkAll elems + uptoBulkAll spare + 1
  | .agg parts => uptoBulkAll parts + 1
  | .iface _ d => uptoBulk d + 1
  | .map entries => uptoBulkEntries entries + 1
  | .held _ => 1
def uptoBulkAll {H : Type} : List (DataW H) → Nat
  | [] => 0
  | d :: r => uptoBulk d + uptoBulkAll r
def uptoBulkEntries {H : Type} : List (Lit × DataW H) → Nat
  | [] => 0
  | x :: r => uptoBulkEntry x + uptoBulkEntries r
def uptoBulkEntry {H : Type} : Lit × DataW H → Nat
  | (.string bytes, d) => bytes.length + uptoBulk d + 1
  | (_, d) => uptoBulk d + 1
 end
def uptoSmall : (H : Type) → List (DataW H) → Bool := fun _ ds => decide (uptoBulkAll ds ≤ 1048576)
def OpenSpec.upto (s : _root_.Go.ChangeSpec) : _root_.Go.OpenSpec := { _root_.Go.OpenSpec.ofChange s with cond := some uptoSmall }

/-- 'bitemporallaw37.SegmentSearch', WHERE WHAT IT READS IS OF BULK AT MOST 1048576: true; the input reads as it did. -/
def segmentSearchUptoRow : OpenClaim := { program := "ytacjiocffbgkkaagreat", sum := "efd30fe744dfadf6544c59a272aafe08d585b1a33e72d8e494fb398f89559a6a", func := "bitemporal/bitemporallaw37.SegmentSearch", spec := "segmentSearch", unfollowed := true, recurses := true, apart := false, narrowed := true }
def SegmentSearchUptoSaid : Prop := segmentSearchUptoRow.holds Tryz.pinned (OpenSpec.upto segmentSearchSpec)

/-- 'bitemporallaw37.SegmentOpen', WHERE WHAT IT READS IS OF BULK AT MOST 1048576: true; the input reads as it did. -/
def segmentOpenUptoRow : OpenClaim := { program := "ytacjiocffbgkkaagreat", sum := "efd30fe744dfadf6544c59a272aafe08d585b1a33e72d8e494fb398f89559a6a", func := "bitemporal/bitemporallaw37.SegmentOpen", spec := "segmentOpen", unfollowed := true, recurses := true, apart := false, narrowed := true }
def SegmentOpenUptoSaid : Prop := segmentOpenUptoRow.holds Tryz.pinned (OpenSpec.upto segmentOpenSpec)

/-- 'bitemporallaw35.RecordVersions', WHERE WHAT IT READS IS OF BULK AT MOST 1048576: true; the input reads as it did. -/
def recordVersionsUptoRow : OpenClaim := { program := "ytacjiocffbgkkaagreat", sum := "efd30fe744dfadf6544c59a272aafe08d585b1a33e72d8e494fb398f89559a6a", func := "bitemporal/bitemporallaw35.RecordVersions", spec := "recordVersions", unfollowed := true, recurses := true, apart := false, narrowed := true }
def RecordVersionsUptoSaid : Prop := recordVersionsUptoRow.holds Tryz.pinned (OpenSpec.upto recordVersionsSpec)

end Rows
end Go.Proofs.YtacjiocffbgkkaaGreat
