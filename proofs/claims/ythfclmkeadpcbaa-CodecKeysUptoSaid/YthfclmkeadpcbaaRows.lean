/-
  No cell of these rows narrows 'for every input' (looked for: loops, veiled, ifaces, maps, wideKeys, modest, calm, conditions, laid).
  DERIVED. THE GIVEN ROWS OF THIS SEAT. 8 by the template 'for every input the law returns true; each argument reads behind the call as it read before'; 0 by the template 'total and deterministic' (their statements: YthfclmkeadpcbaaTotals.lean).
  GIVEN WITH THE SEED: the statements are not yours to turn. If you find one false, say at which input.
  Laid BY PROGRAM, IN A SANDBOX (cutbox-rows.mjs): the forced cells as the released guide's own fill.sh prints them over the translation e2f9c63bb00167d8… (all of the seat's roots in one cut). By AI agents, Wed Nov 11 2026. No macro, syntax, notation, axiom, sorry.
-/
import Derived.Test.YthfclmkeadpcbaaChecked
import GoSem.Claim
import GoSem.ClaimJoined
import GoSem.ClaimMapViews
import Derived.JoinedTies
import Derived.KernelRfl
namespace Go.Proofs.Ythfclmkeadpcbaa
/- THE CELL 'sum', in the pinned program and in every row, IS THE sha256 OF THE DUMP (.gsa) THAT YthfclmkeadpcbaaProg.lean LOADS. Nothing in Lean hashes anything: it is a label: what it is worth is what the hold of that sum in a sandbox is worth. -/
noncomputable def Try.pinned : Pinned := { name := "ythfclmkeadpcbaa", sum := "e2f9c63bb00167d8840867044fafdeae24e23d287c9b43dd5f5e9541430b8bc4", checked := Try.checked }
namespace Rows
def none {H : Type} : Left H := { results := [], args := [] }

/-- 'bitemporallaw09.CodecInts': WHATEVER THE INPUT: true; the input reads as it did. -/
def codecIntsSpec : ChangeSpec := { name := "codecInts", fn := fun _ => fun
  | [d1, d2, d3] => { results := [.lit (.bool true)], args := [d1, d2, d3] }
  | _ => none }
def codecIntsRow : OpenClaim := { program := "ythfclmkeadpcbaa", sum := "e2f9c63bb00167d8840867044fafdeae24e23d287c9b43dd5f5e9541430b8bc4", func := "bitemporal/bitemporallaw09.CodecInts", spec := "codecInts", apart := false }
def CodecIntsSaid : Prop := codecIntsRow.holds Try.pinned (OpenSpec.ofChange codecIntsSpec)

/-- ITS FALSE NEIGHBOUR: 'it returns false'. Refute it at one input. -/
def codecIntsWrong : ChangeSpec := { name := "codecInts", fn := fun _ => fun
  | [d1, d2, d3] => { results := [.lit (.bool false)], args := [d1, d2, d3] }
  | _ => none }
def CodecIntsWrongFalsely : Prop := codecIntsRow.holds Try.pinned (OpenSpec.ofChange codecIntsWrong)

/-- 'bitemporallaw09.CodecKeys': WHATEVER THE INPUT: true; the input reads as it did. -/
def codecKeysSpec : ChangeSpec := { name := "codecKeys", fn := fun _ => fun
  | [d1, d2] => { results := [.lit (.bool true)], args := [d1, d2] }
  | _ => none }
def codecKeysRow : OpenClaim := { program := "ythfclmkeadpcbaa", sum := "e2f9c63bb00167d8840867044fafdeae24e23d287c9b43dd5f5e9541430b8bc4", func := "bitemporal/bitemporallaw09.CodecKeys", spec := "codecKeys", apart := false }
def CodecKeysSaid : Prop := codecKeysRow.holds Try.pinned (OpenSpec.ofChange codecKeysSpec)

/-- ITS FALSE NEIGHBOUR: 'it returns false'. Refute it at one input. -/
def codecKeysWrong : ChangeSpec := { name := "codecKeys", fn := fun _ => fun
  | [d1, d2] => { results := [.lit (.bool false)], args := [d1, d2] }
  | _ => none }
def CodecKeysWrongFalsely : Prop := codecKeysRow.holds Try.pinned (OpenSpec.ofChange codecKeysWrong)

/-- 'bitemporallaw09.CodecSpare': WHATEVER THE INPUT: true; the input reads as it did. -/
def codecSpareSpec : ChangeSpec := { name := "codecSpare", fn := fun _ => fun
  | [d1, d2, d3, d4] => { results := [.lit (.bool true)], args := [d1, d2, d3, d4] }
  | _ => none }
def codecSpareRow : OpenClaim := { program := "ythfclmkeadpcbaa", sum := "e2f9c63bb00167d8840867044fafdeae24e23d287c9b43dd5f5e9541430b8bc4", func := "bitemporal/bitemporallaw09.CodecSpare", spec := "codecSpare", apart := false }
def CodecSpareSaid : Prop := codecSpareRow.holds Try.pinned (OpenSpec.ofChange codecSpareSpec)

/-- ITS FALSE NEIGHBOUR: 'it returns false'. Refute it at one input. -/
def codecSpareWrong : ChangeSpec := { name := "codecSpare", fn := fun _ => fun
  | [d1, d2, d3, d4] => { results := [.lit (.bool false)], args := [d1, d2, d3, d4] }
  | _ => none }
def CodecSpareWrongFalsely : Prop := codecSpareRow.holds Try.pinned (OpenSpec.ofChange codecSpareWrong)

/-- 'bitemporallaw09.CodecTexts': WHATEVER THE INPUT: true; the input reads as it did. -/
def codecTextsSpec : ChangeSpec := { name := "codecTexts", fn := fun _ => fun
  | [d1, d2, d3, d4] => { results := [.lit (.bool true)], args := [d1, d2, d3, d4] }
  | _ => none }
def codecTextsRow : OpenClaim := { program := "ythfclmkeadpcbaa", sum := "e2f9c63bb00167d8840867044fafdeae24e23d287c9b43dd5f5e9541430b8bc4", func := "bitemporal/bitemporallaw09.CodecTexts", spec := "codecTexts", apart := false }
def CodecTextsSaid : Prop := codecTextsRow.holds Try.pinned (OpenSpec.ofChange codecTextsSpec)

/-- ITS FALSE NEIGHBOUR: 'it returns false'. Refute it at one input. -/
def codecTextsWrong : ChangeSpec := { name := "codecTexts", fn := fun _ => fun
  | [d1, d2, d3, d4] => { results := [.lit (.bool false)], args := [d1, d2, d3, d4] }
  | _ => none }
def CodecTextsWrongFalsely : Prop := codecTextsRow.holds Try.pinned (OpenSpec.ofChange codecTextsWrong)

/-- 'bitemporallaw09.CodecPeriods': WHATEVER THE INPUT: true; the input reads as it did. -/
def codecPeriodsSpec : ChangeSpec := { name := "codecPeriods", fn := fun _ => fun
  | [d1, d2, d3] => { results := [.lit (.bool true)], args := [d1, d2, d3] }
  | _ => none }
def codecPeriodsRow : OpenClaim := { program := "ythfclmkeadpcbaa", sum := "e2f9c63bb00167d8840867044fafdeae24e23d287c9b43dd5f5e9541430b8bc4", func := "bitemporal/bitemporallaw09.CodecPeriods", spec := "codecPeriods", apart := false }
def CodecPeriodsSaid : Prop := codecPeriodsRow.holds Try.pinned (OpenSpec.ofChange codecPeriodsSpec)

/-- ITS FALSE NEIGHBOUR: 'it returns false'. Refute it at one input. -/
def codecPeriodsWrong : ChangeSpec := { name := "codecPeriods", fn := fun _ => fun
  | [d1, d2, d3] => { results := [.lit (.bool false)], args := [d1, d2, d3] }
  | _ => none }
def CodecPeriodsWrongFalsely : Prop := codecPeriodsRow.holds Try.pinned (OpenSpec.ofChange codecPeriodsWrong)

/-- 'bitemporallaw09.CodecValues': WHATEVER THE INPUT: true; the input reads as it did. -/
def codecValuesSpec : ChangeSpec := { name := "codecValues", fn := fun _ => fun
  | [d1, d2, d3] => { results := [.lit (.bool true)], args := [d1, d2, d3] }
  | _ => none }
def codecValuesRow : OpenClaim := { program := "ythfclmkeadpcbaa", sum := "e2f9c63bb00167d8840867044fafdeae24e23d287c9b43dd5f5e9541430b8bc4", func := "bitemporal/bitemporallaw09.CodecValues", spec := "codecValues", apart := false }
def CodecValuesSaid : Prop := codecValuesRow.holds Try.pinned (OpenSpec.ofChange codecValuesSpec)

/-- ITS FALSE NEIGHBOUR: 'it returns false'. Refute it at one input. -/
def codecValuesWrong : ChangeSpec := { name := "codecValues", fn := fun _ => fun
  | [d1, d2, d3] => { results := [.lit (.bool false)], args := [d1, d2, d3] }
  | _ => none }
def CodecValuesWrongFalsely : Prop := codecValuesRow.holds Try.pinned (OpenSpec.ofChange codecValuesWrong)

/-- 'bitemporallaw09.CodecRows': WHATEVER THE INPUT: true; the input reads as it did. -/
def codecRowsSpec : ChangeSpec := { name := "codecRows", fn := fun _ => fun
  | [d1, d2, d3] => { results := [.lit (.bool true)], args := [d1, d2, d3] }
  | _ => none }
def codecRowsRow : OpenClaim := { program := "ythfclmkeadpcbaa", sum := "e2f9c63bb00167d8840867044fafdeae24e23d287c9b43dd5f5e9541430b8bc4", func := "bitemporal/bitemporallaw09.CodecRows", spec := "codecRows", apart := false }
def CodecRowsSaid : Prop := codecRowsRow.holds Try.pinned (OpenSpec.ofChange codecRowsSpec)

/-- ITS FALSE NEIGHBOUR: 'it returns false'. Refute it at one input. -/
def codecRowsWrong : ChangeSpec := { name := "codecRows", fn := fun _ => fun
  | [d1, d2, d3] => { results := [.lit (.bool false)], args := [d1, d2, d3] }
  | _ => none }
def CodecRowsWrongFalsely : Prop := codecRowsRow.holds Try.pinned (OpenSpec.ofChange codecRowsWrong)

/-- 'bitemporallaw09.CodecBack': WHATEVER THE INPUT: true; the input reads as it did. -/
def codecBackSpec : ChangeSpec := { name := "codecBack", fn := fun _ => fun
  | [d1, d2, d3, d4] => { results := [.lit (.bool true)], args := [d1, d2, d3, d4] }
  | _ => none }
def codecBackRow : OpenClaim := { program := "ythfclmkeadpcbaa", sum := "e2f9c63bb00167d8840867044fafdeae24e23d287c9b43dd5f5e9541430b8bc4", func := "bitemporal/bitemporallaw09.CodecBack", spec := "codecBack", apart := false }
def CodecBackSaid : Prop := codecBackRow.holds Try.pinned (OpenSpec.ofChange codecBackSpec)

/-- ITS FALSE NEIGHBOUR: 'it returns false'. Refute it at one input. -/
def codecBackWrong : ChangeSpec := { name := "codecBack", fn := fun _ => fun
  | [d1, d2, d3, d4] => { results := [.lit (.bool false)], args := [d1, d2, d3, d4] }
  | _ => none }
def CodecBackWrongFalsely : Prop := codecBackRow.holds Try.pinned (OpenSpec.ofChange codecBackWrong)

/- THE SECOND FORM. 'bulk': how many values and letters a reading holds, each counted each time it is reached (what is shared counts as often as it is met; a slice's spare places count too). A statement '..UptoSaid' is the law's where the arguments, and the package variables that the reading takes, are together of bulk at most 1048576: NARROWER than '..Said'. Prove '..Said' where nothing that the law and all that it calls make is longer than what came in: it says more and counts as full. Else prove '..UptoSaid'. A law counts once. -/
mutual
def uptoBulk {H : Type} : DataW H → Nat
  | .lit (.string bytes) => bytes.length + 1
  | .lit _ => 1
  | .nil => 1
  | .ptr d => uptoBulk d + 1
  | .slice elems spare => uptoBulkAll elems + uptoBulkAll spare + 1
  | .agg parts => uptoBulkAll parts + 1
  | .iface _ d => uptoBulk d + 1
  | .map entries => uptoBulkEntries entries + 1
  | .held _ => 1
def uptoBulkAll {H : Type} : List (DataW H) → Nat
  | [] => 0
  | d :: r => uptoBulk d + uptoBulkAll r
def uptoBulkEntries {H : Type} : List (Lit × DataW H) → Nat
  | [] => 0
  | x :: r => uptoBulkEntry x + uptoBulkEntries r
def uptoBulkEntry {H : Type} : Lit × DataW H → Nat
  | (.string bytes, d) => bytes.length + uptoBulk d + 1
  | (_, d) => uptoBulk d + 1
 end
def uptoSmall : (H : Type) → List (DataW H) → Bool := fun _ ds => decide (uptoBulkAll ds ≤ 1048576)
def OpenSpec.upto (s : _root_.Go.ChangeSpec) : _root_.Go.OpenSpec := { _root_.Go.OpenSpec.ofChange s with cond := some uptoSmall }

/-- 'bitemporallaw09.CodecInts', WHERE WHAT IT READS IS OF BULK AT MOST 1048576: true; the input reads as it did. -/
def codecIntsUptoRow : OpenClaim := { program := "ythfclmkeadpcbaa", sum := "e2f9c63bb00167d8840867044fafdeae24e23d287c9b43dd5f5e9541430b8bc4", func := "bitemporal/bitemporallaw09.CodecInts", spec := "codecInts", apart := false, narrowed := true }
def CodecIntsUptoSaid : Prop := codecIntsUptoRow.holds Try.pinned (OpenSpec.upto codecIntsSpec)

/-- 'bitemporallaw09.CodecKeys', WHERE WHAT IT READS IS OF BULK AT MOST 1048576: true; the input reads as it did. -/
def codecKeysUptoRow : OpenClaim := { program := "ythfclmkeadpcbaa", sum := "e2f9c63bb00167d8840867044fafdeae24e23d287c9b43dd5f5e9541430b8bc4", func := "bitemporal/bitemporallaw09.CodecKeys", spec := "codecKeys", apart := false, narrowed := true }
def CodecKeysUptoSaid : Prop := codecKeysUptoRow.holds Try.pinned (OpenSpec.upto codecKeysSpec)

/-- 'bitemporallaw09.CodecSpare', WHERE WHAT IT READS IS OF BULK AT MOST 1048576: true; the input reads as it did. -/
def codecSpareUptoRow : OpenClaim := { program := "ythfclmkeadpcbaa", sum := "e2f9c63bb00167d8840867044fafdeae24e23d287c9b43dd5f5e9541430b8bc4", func := "bitemporal/bitemporallaw09.CodecSpare", spec := "codecSpare", apart := false, narrowed := true }
def CodecSpareUptoSaid : Prop := codecSpareUptoRow.holds Try.pinned (OpenSpec.upto codecSpareSpec)

/-- 'bitemporallaw09.CodecTexts', WHERE WHAT IT READS IS OF BULK AT MOST 1048576: true; the input reads as it did. -/
def codecTextsUptoRow : OpenClaim := { program := "ythfclmkeadpcbaa", sum := "e2f9c63bb00167d8840867044fafdeae24e23d287c9b43dd5f5e9541430b8bc4", func := "bitemporal/bitemporallaw09.CodecTexts", spec := "codecTexts", apart := false, narrowed := true }
def CodecTextsUptoSaid : Prop := codecTextsUptoRow.holds Try.pinned (OpenSpec.upto codecTextsSpec)

/-- 'bitemporallaw09.CodecPeriods', WHERE WHAT IT READS IS OF BULK AT MOST 1048576: true; the input reads as it did. -/
def codecPeriodsUptoRow : OpenClaim := { program := "ythfclmkeadpcbaa", sum := "e2f9c63bb00167d8840867044fafdeae24e23d287c9b43dd5f5e9541430b8bc4", func := "bitemporal/bitemporallaw09.CodecPeriods", spec := "codecPeriods", apart := false, narrowed := true }
def CodecPeriodsUptoSaid : Prop := codecPeriodsUptoRow.holds Try.pinned (OpenSpec.upto codecPeriodsSpec)

/-- 'bitemporallaw09.CodecValues', WHERE WHAT IT READS IS OF BULK AT MOST 1048576: true; the input reads as it did. -/
def codecValuesUptoRow : OpenClaim := { program := "ythfclmkeadpcbaa", sum := "e2f9c63bb00167d8840867044fafdeae24e23d287c9b43dd5f5e9541430b8bc4", func := "bitemporal/bitemporallaw09.CodecValues", spec := "codecValues", apart := false, narrowed := true }
def CodecValuesUptoSaid : Prop := codecValuesUptoRow.holds Try.pinned (OpenSpec.upto codecValuesSpec)

/-- 'bitemporallaw09.CodecRows', WHERE WHAT IT READS IS OF BULK AT MOST 1048576: true; the input reads as it did. -/
def codecRowsUptoRow : OpenClaim := { program := "ythfclmkeadpcbaa", sum := "e2f9c63bb00167d8840867044fafdeae24e23d287c9b43dd5f5e9541430b8bc4", func := "bitemporal/bitemporallaw09.CodecRows", spec := "codecRows", apart := false, narrowed := true }
def CodecRowsUptoSaid : Prop := codecRowsUptoRow.holds Try.pinned (OpenSpec.upto codecRowsSpec)

/-- 'bitemporallaw09.CodecBack', WHERE WHAT IT READS IS OF BULK AT MOST 1048576: true; the input reads as it did. -/
def codecBackUptoRow : OpenClaim := { program := "ythfclmkeadpcbaa", sum := "e2f9c63bb00167d8840867044fafdeae24e23d287c9b43dd5f5e9541430b8bc4", func := "bitemporal/bitemporallaw09.CodecBack", spec := "codecBack", apart := false, narrowed := true }
def CodecBackUptoSaid : Prop := codecBackUptoRow.holds Try.pinned (OpenSpec.upto codecBackSpec)

end Rows
end Go.Proofs.Ythfclmkeadpcbaa
