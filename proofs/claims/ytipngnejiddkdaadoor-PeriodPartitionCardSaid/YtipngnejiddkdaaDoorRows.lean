/-
  NARROWER THAN 'FOR EVERY INPUT', by the rows' own cells (each row's printed sentence says how): PeriodCombines: laid · PeriodBack: laid · PeriodParse: laid · PeriodPartition: laid · PeriodTells: laid · PeriodOrder: laid.
  DERIVED. THE GIVEN ROWS OF THIS SEAT. 6 by the template 'for every input the law returns true; each argument reads behind the call as it read before'; 0 by the template 'total and deterministic' (their statements: YtipngnejiddkdaaDoorTotals.lean).
  GIVEN WITH THE SEED: the statements are not yours to turn. If you find one false, say at which input.
  Laid BY PROGRAM, IN A SANDBOX (cutbox-rows.mjs): the forced cells as the released guide's own fill.sh prints them over the translation e53e154c79424ad3… (all of the seat's roots in one cut). By AI agents, Wed Nov 11 2026. No macro, syntax, notation, axiom, sorry.
-/
import Derived.Test.YtipngnejiddkdaaDoorChecked
import GoSem.Claim
import GoSem.ClaimJoined
import GoSem.ClaimMapViews
import Derived.JoinedTies
import Derived.KernelRfl
namespace Go.Proofs.YtipngnejiddkdaaDoor
/- THE CELL 'sum', in the pinned program and in every row, IS THE sha256 OF THE DUMP (.gsa) THAT YtipngnejiddkdaaDoorProg.lean LOADS. Nothing in Lean hashes anything: it is a label: what it is worth is what the hold of that sum in a sandbox is worth. -/
noncomputable def Tryd.pinned : Pinned := { name := "ytipngnejiddkdaadoor", sum := "e53e154c79424ad334d489c5b5e7586eb4952062c3c983939f995d30f7189e76", checked := Tryd.checked }
namespace Rows
def none {H : Type} : Left H := { results := [], args := [] }

/- WHAT THE LISTED PACKAGE-LEVEL VARIABLES READ AS WHEN THE CALL BEGINS. Each datum BY PROGRAM (the guide's laid-datum.mjs) off the statement by which the dump's own 'gosem.cut.vars' lays the variable. In a bare row this is a premise. The card (YtipngnejiddkdaaDoorCards.lean) ties it to the program's text. -/
def laid_math_bits_deBruijn32tab {H : Type} : DataW H := .agg [.lit (.int .u8 0), .lit (.int .u8 1), .lit (.int .u8 28), .lit (.int .u8 2), .lit (.int .u8 29), .lit (.int .u8 14), .lit (.int .u8 24), .lit (.int .u8 3), .lit (.int .u8 30), .lit (.int .u8 22), .lit (.int .u8 20), .lit (.int .u8 15), .lit (.int .u8 25), .lit (.int .u8 17), .lit (.int .u8 4), .lit (.int .u8 8), .lit (.int .u8 31), .lit (.int .u8 27), .lit (.int .u8 13), .lit (.int .u8 23), .lit (.int .u8 21), .lit (.int .u8 19), .lit (.int .u8 16), .lit (.int .u8 7), .lit (.int .u8 26), .lit (.int .u8 12), .lit (.int .u8 18), .lit (.int .u8 6), .lit (.int .u8 11), .lit (.int .u8 5), .lit (.int .u8 10), .lit (.int .u8 9)]
def laid_math_bits_deBruijn64tab {H : Type} : DataW H := .agg [.lit (.int .u8 0), .lit (.int .u8 1), .lit (.int .u8 56), .lit (.int .u8 2), .lit (.int .u8 57), .lit (.int .u8 49), .lit (.int .u8 28), .lit (.int .u8 3), .lit (.int .u8 61), .lit (.int .u8 58), .lit (.int .u8 42), .lit (.int .u8 50), .lit (.int .u8 38), .lit (.int .u8 29), .lit (.int .u8 17), .lit (.int .u8 4), .lit (.int .u8 62), .lit (.int .u8 47), .lit (.int .u8 59), .lit (.int .u8 36), .lit (.int .u8 45), .lit (.int .u8 43), .lit (.int .u8 51), .lit (.int .u8 22), .lit (.int .u8 53), .lit (.int .u8 39), .lit (.int .u8 33), .lit (.int .u8 30), .lit (.int .u8 24), .lit (.int .u8 18), .lit (.int .u8 12), .lit (.int .u8 5), .lit (.int .u8 63), .lit (.int .u8 55), .lit (.int .u8 48), .lit (.int .u8 27), .lit (.int .u8 60), .lit (.int .u8 41), .lit (.int .u8 37), .lit (.int .u8 16), .lit (.int .u8 46), .lit (.int .u8 35), .lit (.int .u8 44), .lit (.int .u8 21), .lit (.int .u8 52), .lit (.int .u8 32), .lit (.int .u8 23), .lit (.int .u8 11), .lit (.int .u8 54), .lit (.int .u8 26), .lit (.int .u8 40), .lit (.int .u8 15), .lit (.int .u8 34), .lit (.int .u8 20), .lit (.int .u8 31), .lit (.int .u8 10), .lit (.int .u8 25), .lit (.int .u8 14), .lit (.int .u8 19), .lit (.int .u8 9), .lit (.int .u8 13), .lit (.int .u8 8), .lit (.int .u8 7), .lit (.int .u8 6)]
def laid_internal_strconv_uint64pow10 {H : Type} : DataW H := .agg [.lit (.int .u64 1), .lit (.int .u64 10), .lit (.int .u64 100), .lit (.int .u64 1000), .lit (.int .u64 10000), .lit (.int .u64 100000), .lit (.int .u64 1000000), .lit (.int .u64 10000000), .lit (.int .u64 100000000), .lit (.int .u64 1000000000), .lit (.int .u64 10000000000), .lit (.int .u64 100000000000), .lit (.int .u64 1000000000000), .lit (.int .u64 10000000000000), .lit (.int .u64 100000000000000), .lit (.int .u64 1000000000000000), .lit (.int .u64 10000000000000000), .lit (.int .u64 100000000000000000), .lit (.int .u64 1000000000000000000), .lit (.int .u64 10000000000000000000)]

/-- 'bitemporallaw01.PeriodCombines': WHATEVER THE INPUT: true; the input reads as it did. -/
def periodCombinesSpec : ChangeSpec := { name := "periodCombines", fn := fun _ => fun
  | [d1, d2] => { results := [.lit (.bool true)], args := [d1, d2] }
  | _ => none }
def periodCombinesRow : OpenClaim := { program := "ytipngnejiddkdaadoor", sum := "e53e154c79424ad334d489c5b5e7586eb4952062c3c983939f995d30f7189e76", func := "bitemporal/bitemporallaw01.PeriodCombines", spec := "periodCombines", inPlace := ["internal/bytealg.IndexByteString", "internal/bytealg.IndexString"], named := ["internal/bytealg.MaxLen", "internal/strconv.uint64pow10", "math/bits.deBruijn32tab", "math/bits.deBruijn64tab"], apart := false, laid := [("math/bits.deBruijn32tab", laid_math_bits_deBruijn32tab), ("math/bits.deBruijn64tab", laid_math_bits_deBruijn64tab), ("internal/strconv.uint64pow10", laid_internal_strconv_uint64pow10)] }
def PeriodCombinesSaid : Prop := periodCombinesRow.holds Tryd.pinned (OpenSpec.ofChange periodCombinesSpec)

/-- ITS FALSE NEIGHBOUR: 'it returns false'. Refute it at one input. -/
def periodCombinesWrong : ChangeSpec := { name := "periodCombines", fn := fun _ => fun
  | [d1, d2] => { results := [.lit (.bool false)], args := [d1, d2] }
  | _ => none }
def PeriodCombinesWrongFalsely : Prop := periodCombinesRow.holds Tryd.pinned (OpenSpec.ofChange periodCombinesWrong)

/-- 'bitemporallaw01.PeriodBack': WHATEVER THE INPUT: true; the input reads as it did. -/
def periodBackSpec : ChangeSpec := { name := "periodBack", fn := fun _ => fun
  | [d] => { results := [.lit (.bool true)], args := [d] }
  | _ => none }
def periodBackRow : OpenClaim := { program := "ytipngnejiddkdaadoor", sum := "e53e154c79424ad334d489c5b5e7586eb4952062c3c983939f995d30f7189e76", func := "bitemporal/bitemporallaw01.PeriodBack", spec := "periodBack", inPlace := ["internal/bytealg.IndexByteString", "internal/bytealg.IndexString"], named := ["internal/strconv.uint64pow10", "math/bits.deBruijn32tab", "math/bits.deBruijn64tab", "internal/bytealg.MaxLen"], apart := false, laid := [("math/bits.deBruijn32tab", laid_math_bits_deBruijn32tab), ("math/bits.deBruijn64tab", laid_math_bits_deBruijn64tab), ("internal/strconv.uint64pow10", laid_internal_strconv_uint64pow10)] }
def PeriodBackSaid : Prop := periodBackRow.holds Tryd.pinned (OpenSpec.ofChange periodBackSpec)

/-- ITS FALSE NEIGHBOUR: 'it returns false'. Refute it at one input. -/
def periodBackWrong : ChangeSpec := { name := "periodBack", fn := fun _ => fun
  | [d] => { results := [.lit (.bool false)], args := [d] }
  | _ => none }
def PeriodBackWrongFalsely : Prop := periodBackRow.holds Tryd.pinned (OpenSpec.ofChange periodBackWrong)

/-- 'bitemporallaw01.PeriodParse': WHATEVER THE INPUT: true; the input reads as it did. -/
def periodParseSpec : ChangeSpec := { name := "periodParse", fn := fun _ => fun
  | [d] => { results := [.lit (.bool true)], args := [d] }
  | _ => none }
def periodParseRow : OpenClaim := { program := "ytipngnejiddkdaadoor", sum := "e53e154c79424ad334d489c5b5e7586eb4952062c3c983939f995d30f7189e76", func := "bitemporal/bitemporallaw01.PeriodParse", spec := "periodParse", inPlace := ["internal/bytealg.IndexByteString", "internal/bytealg.IndexString"], named := ["internal/bytealg.MaxLen", "internal/strconv.uint64pow10", "math/bits.deBruijn32tab", "math/bits.deBruijn64tab"], apart := false, laid := [("math/bits.deBruijn32tab", laid_math_bits_deBruijn32tab), ("math/bits.deBruijn64tab", laid_math_bits_deBruijn64tab), ("internal/strconv.uint64pow10", laid_internal_strconv_uint64pow10)] }
def PeriodParseSaid : Prop := periodParseRow.holds Tryd.pinned (OpenSpec.ofChange periodParseSpec)

/-- ITS FALSE NEIGHBOUR: 'it returns false'. Refute it at one input. -/
def periodParseWrong : ChangeSpec := { name := "periodParse", fn := fun _ => fun
  | [d] => { results := [.lit (.bool false)], args := [d] }
  | _ => none }
def PeriodParseWrongFalsely : Prop := periodParseRow.holds Tryd.pinned (OpenSpec.ofChange periodParseWrong)

/-- 'bitemporallaw01.PeriodPartition': WHATEVER THE INPUT: true; the input reads as it did. -/
def periodPartitionSpec : ChangeSpec := { name := "periodPartition", fn := fun _ => fun
  | [d1, d2, d3] => { results := [.lit (.bool true)], args := [d1, d2, d3] }
  | _ => none }
def periodPartitionRow : OpenClaim := { program := "ytipngnejiddkdaadoor", sum := "e53e154c79424ad334d489c5b5e7586eb4952062c3c983939f995d30f7189e76", func := "bitemporal/bitemporallaw01.PeriodPartition", spec := "periodPartition", inPlace := ["internal/bytealg.IndexByteString", "internal/bytealg.IndexString"], named := ["internal/bytealg.MaxLen", "internal/strconv.uint64pow10", "math/bits.deBruijn32tab", "math/bits.deBruijn64tab"], apart := false, laid := [("math/bits.deBruijn32tab", laid_math_bits_deBruijn32tab), ("math/bits.deBruijn64tab", laid_math_bits_deBruijn64tab), ("internal/strconv.uint64pow10", laid_internal_strconv_uint64pow10)] }
def PeriodPartitionSaid : Prop := periodPartitionRow.holds Tryd.pinned (OpenSpec.ofChange periodPartitionSpec)

/-- ITS FALSE NEIGHBOUR: 'it returns false'. Refute it at one input. -/
def periodPartitionWrong : ChangeSpec := { name := "periodPartition", fn := fun _ => fun
  | [d1, d2, d3] => { results := [.lit (.bool false)], args := [d1, d2, d3] }
  | _ => none }
def PeriodPartitionWrongFalsely : Prop := periodPartitionRow.holds Tryd.pinned (OpenSpec.ofChange periodPartitionWrong)

/-- 'bitemporallaw01.PeriodTells': WHATEVER THE INPUT: true; the input reads as it did. -/
def periodTellsSpec : ChangeSpec := { name := "periodTells", fn := fun _ => fun
  | [d1, d2, d3] => { results := [.lit (.bool true)], args := [d1, d2, d3] }
  | _ => none }
def periodTellsRow : OpenClaim := { program := "ytipngnejiddkdaadoor", sum := "e53e154c79424ad334d489c5b5e7586eb4952062c3c983939f995d30f7189e76", func := "bitemporal/bitemporallaw01.PeriodTells", spec := "periodTells", inPlace := ["internal/bytealg.IndexByteString", "internal/bytealg.IndexString"], named := ["internal/bytealg.MaxLen", "internal/strconv.uint64pow10", "math/bits.deBruijn32tab", "math/bits.deBruijn64tab"], apart := false, laid := [("math/bits.deBruijn32tab", laid_math_bits_deBruijn32tab), ("math/bits.deBruijn64tab", laid_math_bits_deBruijn64tab), ("internal/strconv.uint64pow10", laid_internal_strconv_uint64pow10)] }
def PeriodTellsSaid : Prop := periodTellsRow.holds Tryd.pinned (OpenSpec.ofChange periodTellsSpec)

/-- ITS FALSE NEIGHBOUR: 'it returns false'. Refute it at one input. -/
def periodTellsWrong : ChangeSpec := { name := "periodTells", fn := fun _ => fun
  | [d1, d2, d3] => { results := [.lit (.bool false)], args := [d1, d2, d3] }
  | _ => none }
def PeriodTellsWrongFalsely : Prop := periodTellsRow.holds Tryd.pinned (OpenSpec.ofChange periodTellsWrong)

/-- 'bitemporallaw01.PeriodOrder': WHATEVER THE INPUT: true; the input reads as it did. -/
def periodOrderSpec : ChangeSpec := { name := "periodOrder", fn := fun _ => fun
  | [d1, d2, d3] => { results := [.lit (.bool true)], args := [d1, d2, d3] }
  | _ => none }
def periodOrderRow : OpenClaim := { program := "ytipngnejiddkdaadoor", sum := "e53e154c79424ad334d489c5b5e7586eb4952062c3c983939f995d30f7189e76", func := "bitemporal/bitemporallaw01.PeriodOrder", spec := "periodOrder", inPlace := ["internal/bytealg.IndexByteString", "internal/bytealg.IndexString"], named := ["internal/bytealg.MaxLen", "internal/strconv.uint64pow10", "math/bits.deBruijn32tab", "math/bits.deBruijn64tab"], apart := false, laid := [("math/bits.deBruijn32tab", laid_math_bits_deBruijn32tab), ("math/bits.deBruijn64tab", laid_math_bits_deBruijn64tab), ("internal/strconv.uint64pow10", laid_internal_strconv_uint64pow10)] }
def PeriodOrderSaid : Prop := periodOrderRow.holds Tryd.pinned (OpenSpec.ofChange periodOrderSpec)

/-- ITS FALSE NEIGHBOUR: 'it returns false'. Refute it at one input. -/
def periodOrderWrong : ChangeSpec := { name := "periodOrder", fn := fun _ => fun
  | [d1, d2, d3] => { results := [.lit (.bool false)], args := [d1, d2, d3] }
  | _ => none }
def PeriodOrderWrongFalsely : Prop := periodOrderRow.holds Tryd.pinned (OpenSpec.ofChange periodOrderWrong)

/- THE SECOND FORM. 'bulk': how many values and letters a reading holds, each counted each time it is reached (what is shared counts as often as it is met; a slice's spare places count too). A statement '..UptoSaid' is the law's where the arguments, and the package variables that the reading takes, are together of bulk at most 1048576: NARROWER than '..Said'. Prove '..Said' where nothing that the law and all that it calls make is longer than what came in: it says more and counts as full. Else prove '..UptoSaid'. A law counts once. -/
mutual
def uptoBulk {H : Type} : DataW H → Nat
  | .lit (.string bytes) => bytes.length + 1
  | .lit _ => 1
  | .nil => 1
  | .ptr d => uptoBulk d + 1
  | .slice elems spare => uptoBulkAll elems + uptoBulkAll spare + 1
  | .agg parts => uptoBulkAll parts + 1
  | .iface _ d => uptoBulk d + 1
  | .map entries => uptoBulkEntries entries + 1
  | .held _ => 1
def uptoBulkAll {H : Type} : List (DataW H) → Nat
  | [] => 0
  | d :: r => uptoBulk d + uptoBulkAll r
def uptoBulkEntries {H : Type} : List (Lit × DataW H) → Nat
  | [] => 0
  | x :: r => uptoBulkEntry x + uptoBulkEntries r
def uptoBulkEntry {H : Type} : Lit × DataW H → Nat
  | (.string bytes, d) => bytes.length + uptoBulk d + 1
  | (_, d) => uptoBulk d + 1
 end
def uptoSmall : (H : Type) → List (DataW H) → Bool := fun _ ds => decide (uptoBulkAll ds ≤ 1048576)
def OpenSpec.upto (s : _root_.Go.ChangeSpec) : _root_.Go.OpenSpec := { _root_.Go.OpenSpec.ofChange s with cond := some uptoSmall }

/-- 'bitemporallaw01.PeriodCombines', WHERE WHAT IT READS IS OF BULK AT MOST 1048576: true; the input reads as it did. -/
def periodCombinesUptoRow : OpenClaim := { program := "ytipngnejiddkdaadoor", sum := "e53e154c79424ad334d489c5b5e7586eb4952062c3c983939f995d30f7189e76", func := "bitemporal/bitemporallaw01.PeriodCombines", spec := "periodCombines", inPlace := ["internal/bytealg.IndexByteString", "internal/bytealg.IndexString"], named := ["internal/bytealg.MaxLen", "internal/strconv.uint64pow10", "math/bits.deBruijn32tab", "math/bits.deBruijn64tab"], apart := false, laid := [("math/bits.deBruijn32tab", laid_math_bits_deBruijn32tab), ("math/bits.deBruijn64tab", laid_math_bits_deBruijn64tab), ("internal/strconv.uint64pow10", laid_internal_strconv_uint64pow10)], narrowed := true }
def PeriodCombinesUptoSaid : Prop := periodCombinesUptoRow.holds Tryd.pinned (OpenSpec.upto periodCombinesSpec)

/-- 'bitemporallaw01.PeriodBack', WHERE WHAT IT READS IS OF BULK AT MOST 1048576: true; the input reads as it did. -/
def periodBackUptoRow : OpenClaim := { program := "ytipngnejiddkdaadoor", sum := "e53e154c79424ad334d489c5b5e7586eb4952062c3c983939f995d30f7189e76", func := "bitemporal/bitemporallaw01.PeriodBack", spec := "periodBack", inPlace := ["internal/bytealg.IndexByteString", "internal/bytealg.IndexString"], named := ["internal/strconv.uint64pow10", "math/bits.deBruijn32tab", "math/bits.deBruijn64tab", "internal/bytealg.MaxLen"], apart := false, laid := [("math/bits.deBruijn32tab", laid_math_bits_deBruijn32tab), ("math/bits.deBruijn64tab", laid_math_bits_deBruijn64tab), ("internal/strconv.uint64pow10", laid_internal_strconv_uint64pow10)], narrowed := true }
def PeriodBackUptoSaid : Prop := periodBackUptoRow.holds Tryd.pinned (OpenSpec.upto periodBackSpec)

/-- 'bitemporallaw01.PeriodParse', WHERE WHAT IT READS IS OF BULK AT MOST 1048576: true; the input reads as it did. -/
def periodParseUptoRow : OpenClaim := { program := "ytipngnejiddkdaadoor", sum := "e53e154c79424ad334d489c5b5e7586eb4952062c3c983939f995d30f7189e76", func := "bitemporal/bitemporallaw01.PeriodParse", spec := "periodParse", inPlace := ["internal/bytealg.IndexByteString", "internal/bytealg.IndexString"], named := ["internal/bytealg.MaxLen", "internal/strconv.uint64pow10", "math/bits.deBruijn32tab", "math/bits.deBruijn64tab"], apart := false, laid := [("math/bits.deBruijn32tab", laid_math_bits_deBruijn32tab), ("math/bits.deBruijn64tab", laid_math_bits_deBruijn64tab), ("internal/strconv.uint64pow10", laid_internal_strconv_uint64pow10)], narrowed := true }
def PeriodParseUptoSaid : Prop := periodParseUptoRow.holds Tryd.pinned (OpenSpec.upto periodParseSpec)

/-- 'bitemporallaw01.PeriodPartition', WHERE WHAT IT READS IS OF BULK AT MOST 1048576: true; the input reads as it did. -/
def periodPartitionUptoRow : OpenClaim := { program := "ytipngnejiddkdaadoor", sum := "e53e154c79424ad334d489c5b5e7586eb4952062c3c983939f995d30f7189e76", func := "bitemporal/bitemporallaw01.PeriodPartition", spec := "periodPartition", inPlace := ["internal/bytealg.IndexByteString", "internal/bytealg.IndexString"], named := ["internal/bytealg.MaxLen", "internal/strconv.uint64pow10", "math/bits.deBruijn32tab", "math/bits.deBruijn64tab"], apart := false, laid := [("math/bits.deBruijn32tab", laid_math_bits_deBruijn32tab), ("math/bits.deBruijn64tab", laid_math_bits_deBruijn64tab), ("internal/strconv.uint64pow10", laid_internal_strconv_uint64pow10)], narrowed := true }
def PeriodPartitionUptoSaid : Prop := periodPartitionUptoRow.holds Tryd.pinned (OpenSpec.upto periodPartitionSpec)

/-- 'bitemporallaw01.PeriodTells', WHERE WHAT IT READS IS OF BULK AT MOST 1048576: true; the input reads as it did. -/
def periodTellsUptoRow : OpenClaim := { program := "ytipngnejiddkdaadoor", sum := "e53e154c79424ad334d489c5b5e7586eb4952062c3c983939f995d30f7189e76", func := "bitemporal/bitemporallaw01.PeriodTells", spec := "periodTells", inPlace := ["internal/bytealg.IndexByteString", "internal/bytealg.IndexString"], named := ["internal/bytealg.MaxLen", "internal/strconv.uint64pow10", "math/bits.deBruijn32tab", "math/bits.deBruijn64tab"], apart := false, laid := [("math/bits.deBruijn32tab", laid_math_bits_deBruijn32tab), ("math/bits.deBruijn64tab", laid_math_bits_deBruijn64tab), ("internal/strconv.uint64pow10", laid_internal_strconv_uint64pow10)], narrowed := true }
def PeriodTellsUptoSaid : Prop := periodTellsUptoRow.holds Tryd.pinned (OpenSpec.upto periodTellsSpec)

/-- 'bitemporallaw01.PeriodOrder', WHERE WHAT IT READS IS OF BULK AT MOST 1048576: true; the input reads as it did. -/
def periodOrderUptoRow : OpenClaim := { program := "ytipngnejiddkdaadoor", sum := "e53e154c79424ad334d489c5b5e7586eb4952062c3c983939f995d30f7189e76", func := "bitemporal/bitemporallaw01.PeriodOrder", spec := "periodOrder", inPlace := ["internal/bytealg.IndexByteString", "internal/bytealg.IndexString"], named := ["internal/bytealg.MaxLen", "internal/strconv.uint64pow10", "math/bits.deBruijn32tab", "math/bits.deBruijn64tab"], apart := false, laid := [("math/bits.deBruijn32tab", laid_math_bits_deBruijn32tab), ("math/bits.deBruijn64tab", laid_math_bits_deBruijn64tab), ("internal/strconv.uint64pow10", laid_internal_strconv_uint64pow10)], narrowed := true }
def PeriodOrderUptoSaid : Prop := periodOrderUptoRow.holds Tryd.pinned (OpenSpec.upto periodOrderSpec)

end Rows
end Go.Proofs.YtipngnejiddkdaaDoor
