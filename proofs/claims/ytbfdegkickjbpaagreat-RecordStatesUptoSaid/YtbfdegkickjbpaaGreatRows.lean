/-
  NARROWER THAN 'FOR EVERY INPUT', by the rows' own cells (each row's printed sentence says how): RecordCheck: loops · RecordEncode: loops · RecordTorn: loops · RecordSame: loops · RecordStates: loops · RecordBack: loops.
  DERIVED. THE GIVEN ROWS OF THIS SEAT. 7 by the template 'for every input the law returns true; each argument reads behind the call as it read before'; 0 by the template 'total and deterministic' (their statements: YtbfdegkickjbpaaGreatTotals.lean).
  GIVEN WITH THE SEED: the statements are not yours to turn. If you find one false, say at which input.
  Laid BY PROGRAM, IN A SANDBOX (cutbox-rows.mjs): the forced cells as the released guide's own fill.sh prints them over the translation 9a0402b29989edf7… (all of the seat's roots in one cut). By AI agents, Wed Nov 11 2026. No macro, syntax, notation, axiom, sorry.
-/
import Derived.Test.YtbfdegkickjbpaaGreatChecked
import GoSem.Claim
import GoSem.ClaimJoined
import GoSem.ClaimMapViews
import Derived.JoinedTies
import Derived.KernelRfl
namespace Go.Proofs.YtbfdegkickjbpaaGreat
/- THE CELL 'sum', in the pinned program and in every row, IS THE sha256 OF THE DUMP (.gsa) THAT YtbfdegkickjbpaaGreatProg.lean LOADS. Nothing in Lean hashes anything: it is a label: what it is worth is what the hold of that sum in a sandbox is worth. -/
noncomputable def Tryz.pinned : Pinned := { name := "ytbfdegkickjbpaagreat", sum := "9a0402b29989edf7483206a191e5a023eebcadfb28a716b61fdb2f5dac831b03", checked := Tryz.checked }
namespace Rows
def none {H : Type} : Left H := { results := [], args := [] }

/-- 'bitemporallaw35.RecordCheck': WHATEVER THE INPUT: true; the input reads as it did. -/
def recordCheckSpec : ChangeSpec := { name := "recordCheck", fn := fun _ => fun
  | [d] => { results := [.lit (.bool true)], args := [d] }
  | _ => none }
def recordCheckRow : OpenClaim := { program := "ytbfdegkickjbpaagreat", sum := "9a0402b29989edf7483206a191e5a023eebcadfb28a716b61fdb2f5dac831b03", func := "bitemporal/bitemporallaw35.RecordCheck", spec := "recordCheck", unfollowed := true, recurses := true, loops := true, apart := false }
def RecordCheckSaid : Prop := recordCheckRow.holds Tryz.pinned (OpenSpec.ofChange recordCheckSpec)

/-- ITS FALSE NEIGHBOUR: 'it returns false'. Refute it at one input. -/
def recordCheckWrong : ChangeSpec := { name := "recordCheck", fn := fun _ => fun
  | [d] => { results := [.lit (.bool false)], args := [d] }
  | _ => none }
def RecordCheckWrongFalsely : Prop := recordCheckRow.holds Tryz.pinned (OpenSpec.ofChange recordCheckWrong)

/-- 'bitemporallaw35.RecordEncode': WHATEVER THE INPUT: true; the input reads as it did. -/
def recordEncodeSpec : ChangeSpec := { name := "recordEncode", fn := fun _ => fun
  | [d] => { results := [.lit (.bool true)], args := [d] }
  | _ => none }
def recordEncodeRow : OpenClaim := { program := "ytbfdegkickjbpaagreat", sum := "9a0402b29989edf7483206a191e5a023eebcadfb28a716b61fdb2f5dac831b03", func := "bitemporal/bitemporallaw35.RecordEncode", spec := "recordEncode", unfollowed := true, recurses := true, loops := true, apart := false }
def RecordEncodeSaid : Prop := recordEncodeRow.holds Tryz.pinned (OpenSpec.ofChange recordEncodeSpec)

/-- ITS FALSE NEIGHBOUR: 'it returns false'. Refute it at one input. -/
def recordEncodeWrong : ChangeSpec := { name := "recordEncode", fn := fun _ => fun
  | [d] => { results := [.lit (.bool false)], args := [d] }
  | _ => none }
def RecordEncodeWrongFalsely : Prop := recordEncodeRow.holds Tryz.pinned (OpenSpec.ofChange recordEncodeWrong)

/-- 'bitemporallaw35.RecordDecode': WHATEVER THE INPUT: true; the input reads as it did. -/
def recordDecodeSpec : ChangeSpec := { name := "recordDecode", fn := fun _ => fun
  | [d] => { results := [.lit (.bool true)], args := [d] }
  | _ => none }
def recordDecodeRow : OpenClaim := { program := "ytbfdegkickjbpaagreat", sum := "9a0402b29989edf7483206a191e5a023eebcadfb28a716b61fdb2f5dac831b03", func := "bitemporal/bitemporallaw35.RecordDecode", spec := "recordDecode", unfollowed := true, recurses := true, apart := false }
def RecordDecodeSaid : Prop := recordDecodeRow.holds Tryz.pinned (OpenSpec.ofChange recordDecodeSpec)

/-- ITS FALSE NEIGHBOUR: 'it returns false'. Refute it at one input. -/
def recordDecodeWrong : ChangeSpec := { name := "recordDecode", fn := fun _ => fun
  | [d] => { results := [.lit (.bool false)], args := [d] }
  | _ => none }
def RecordDecodeWrongFalsely : Prop := recordDecodeRow.holds Tryz.pinned (OpenSpec.ofChange recordDecodeWrong)

/-- 'bitemporallaw35.RecordTorn': WHATEVER THE INPUT: true; the input reads as it did. -/
def recordTornSpec : ChangeSpec := { name := "recordTorn", fn := fun _ => fun
  | [d1, d2] => { results := [.lit (.bool true)], args := [d1, d2] }
  | _ => none }
def recordTornRow : OpenClaim := { program := "ytbfdegkickjbpaagreat", sum := "9a0402b29989edf7483206a191e5a023eebcadfb28a716b61fdb2f5dac831b03", func := "bitemporal/bitemporallaw35.RecordTorn", spec := "recordTorn", unfollowed := true, recurses := true, loops := true, apart := false }
def RecordTornSaid : Prop := recordTornRow.holds Tryz.pinned (OpenSpec.ofChange recordTornSpec)

/-- ITS FALSE NEIGHBOUR: 'it returns false'. Refute it at one input. -/
def recordTornWrong : ChangeSpec := { name := "recordTorn", fn := fun _ => fun
  | [d1, d2] => { results := [.lit (.bool false)], args := [d1, d2] }
  | _ => none }
def RecordTornWrongFalsely : Prop := recordTornRow.holds Tryz.pinned (OpenSpec.ofChange recordTornWrong)

/-- 'bitemporallaw35.RecordSame': WHATEVER THE INPUT: true; the input reads as it did. -/
def recordSameSpec : ChangeSpec := { name := "recordSame", fn := fun _ => fun
  | [d1, d2, d3, d4] => { results := [.lit (.bool true)], args := [d1, d2, d3, d4] }
  | _ => none }
def recordSameRow : OpenClaim := { program := "ytbfdegkickjbpaagreat", sum := "9a0402b29989edf7483206a191e5a023eebcadfb28a716b61fdb2f5dac831b03", func := "bitemporal/bitemporallaw35.RecordSame", spec := "recordSame", inPlace := ["internal/bytealg.abigen_runtime_cmpstring"], unfollowed := true, recurses := true, loops := true, apart := false }
def RecordSameSaid : Prop := recordSameRow.holds Tryz.pinned (OpenSpec.ofChange recordSameSpec)

/-- ITS FALSE NEIGHBOUR: 'it returns false'. Refute it at one input. -/
def recordSameWrong : ChangeSpec := { name := "recordSame", fn := fun _ => fun
  | [d1, d2, d3, d4] => { results := [.lit (.bool false)], args := [d1, d2, d3, d4] }
  | _ => none }
def RecordSameWrongFalsely : Prop := recordSameRow.holds Tryz.pinned (OpenSpec.ofChange recordSameWrong)

/-- 'bitemporallaw35.RecordStates': WHATEVER THE INPUT: true; the input reads as it did. -/
def recordStatesSpec : ChangeSpec := { name := "recordStates", fn := fun _ => fun
  | [d1, d2] => { results := [.lit (.bool true)], args := [d1, d2] }
  | _ => none }
def recordStatesRow : OpenClaim := { program := "ytbfdegkickjbpaagreat", sum := "9a0402b29989edf7483206a191e5a023eebcadfb28a716b61fdb2f5dac831b03", func := "bitemporal/bitemporallaw35.RecordStates", spec := "recordStates", unfollowed := true, recurses := true, loops := true, apart := false }
def RecordStatesSaid : Prop := recordStatesRow.holds Tryz.pinned (OpenSpec.ofChange recordStatesSpec)

/-- ITS FALSE NEIGHBOUR: 'it returns false'. Refute it at one input. -/
def recordStatesWrong : ChangeSpec := { name := "recordStates", fn := fun _ => fun
  | [d1, d2] => { results := [.lit (.bool false)], args := [d1, d2] }
  | _ => none }
def RecordStatesWrongFalsely : Prop := recordStatesRow.holds Tryz.pinned (OpenSpec.ofChange recordStatesWrong)

/-- 'bitemporallaw35.RecordBack': WHATEVER THE INPUT: true; the input reads as it did. -/
def recordBackSpec : ChangeSpec := { name := "recordBack", fn := fun _ => fun
  | [d1, d2, d3] => { results := [.lit (.bool true)], args := [d1, d2, d3] }
  | _ => none }
def recordBackRow : OpenClaim := { program := "ytbfdegkickjbpaagreat", sum := "9a0402b29989edf7483206a191e5a023eebcadfb28a716b61fdb2f5dac831b03", func := "bitemporal/bitemporallaw35.RecordBack", spec := "recordBack", unfollowed := true, recurses := true, loops := true, apart := false }
def RecordBackSaid : Prop := recordBackRow.holds Tryz.pinned (OpenSpec.ofChange recordBackSpec)

/-- ITS FALSE NEIGHBOUR: 'it returns false'. Refute it at one input. -/
def recordBackWrong : ChangeSpec := { name := "recordBack", fn := fun _ => fun
  | [d1, d2, d3] => { results := [.lit (.bool false)], args := [d1, d2, d3] }
  | _ => none }
def RecordBackWrongFalsely : Prop := recordBackRow.holds Tryz.pinned (OpenSpec.ofChange recordBackWrong)

/- THE SECOND FORM. 'bulk': how many values and letters a reading holds, each counted each time it is reached (what is shared counts as often as it is met; a slice's spare places count too). A statement '..UptoSaid' is the law's where the arguments, and the package variables that the reading takes, are together of bulk at most 1048576: NARROWER than '..Said'. Prove '..Said' where nothing that the law and all that it calls make is longer than what came in: it says more and counts as full. Else prove '..UptoSaid'. A law counts once. -/
mutual
def uptoBulk {H : Type} : DataW H → Nat
  | .lit (.string bytes) => bytes.length + 1
  | .lit _ => 1
  | .nil => 1
  | .ptr d => uptoBulk d + 1
  | .slice elems spare => uptoBulkAll elems + uptoBulkAll spare + 1
  | .agg parts => uptoBulkAll parts + 1
  | .iface _ d => uptoBulk d + 1
  | .map entries => uptoBulkEntries entries + 1
  | .held _ => 1
def uptoBulkAll {H : Type} : List (DataW H) → Nat
  | [] => 0
  | d :: r => uptoBulk d + uptoBulkAll r
def uptoBulkEntries {H : Type} : List (Lit × DataW H) → Nat
  | [] => 0
  | x :: r => uptoBulkEntry x + uptoBulkEntries r
def uptoBulkEntry {H : Type} : Lit × DataW H → Nat
  | (.string bytes, d) => bytes.length + uptoBulk d + 1
  | (_, d) => uptoBulk d + 1
 end
def uptoSmall : (H : Type) → List (DataW H) → Bool := fun _ ds => decide (uptoBulkAll ds ≤ 1048576)
def OpenSpec.upto (s : _root_.Go.ChangeSpec) : _root_.Go.OpenSpec := { _root_.Go.OpenSpec.ofChange s with cond := some uptoSmall }

/-- 'bitemporallaw35.RecordCheck', WHERE WHAT IT READS IS OF BULK AT MOST 1048576: true; the input reads as it did. -/
def recordCheckUptoRow : OpenClaim := { program := "ytbfdegkickjbpaagreat", sum := "9a0402b29989edf7483206a191e5a023eebcadfb28a716b61fdb2f5dac831b03", func := "bitemporal/bitemporallaw35.RecordCheck", spec := "recordCheck", unfollowed := true, recurses := true, loops := true, apart := false, narrowed := true }
def RecordCheckUptoSaid : Prop := recordCheckUptoRow.holds Tryz.pinned (OpenSpec.upto recordCheckSpec)

/-- 'bitemporallaw35.RecordEncode', WHERE WHAT IT READS IS OF BULK AT MOST 1048576: true; the input reads as it did. -/
def recordEncodeUptoRow : OpenClaim := { program := "ytbfdegkickjbpaagreat", sum := "9a0402b29989edf7483206a191e5a023eebcadfb28a716b61fdb2f5dac831b03", func := "bitemporal/bitemporallaw35.RecordEncode", spec := "recordEncode", unfollowed := true, recurses := true, loops := true, apart := false, narrowed := true }
def RecordEncodeUptoSaid : Prop := recordEncodeUptoRow.holds Tryz.pinned (OpenSpec.upto recordEncodeSpec)

/-- 'bitemporallaw35.RecordDecode', WHERE WHAT IT READS IS OF BULK AT MOST 1048576: true; the input reads as it did. -/
def recordDecodeUptoRow : OpenClaim := { program := "ytbfdegkickjbpaagreat", sum := "9a0402b29989edf7483206a191e5a023eebcadfb28a716b61fdb2f5dac831b03", func := "bitemporal/bitemporallaw35.RecordDecode", spec := "recordDecode", unfollowed := true, recurses := true, apart := false, narrowed := true }
def RecordDecodeUptoSaid : Prop := recordDecodeUptoRow.holds Tryz.pinned (OpenSpec.upto recordDecodeSpec)

/-- 'bitemporallaw35.RecordTorn', WHERE WHAT IT READS IS OF BULK AT MOST 1048576: true; the input reads as it did. -/
def recordTornUptoRow : OpenClaim := { program := "ytbfdegkickjbpaagreat", sum := "9a0402b29989edf7483206a191e5a023eebcadfb28a716b61fdb2f5dac831b03", func := "bitemporal/bitemporallaw35.RecordTorn", spec := "recordTorn", unfollowed := true, recurses := true, loops := true, apart := false, narrowed := true }
def RecordTornUptoSaid : Prop := recordTornUptoRow.holds Tryz.pinned (OpenSpec.upto recordTornSpec)

/-- 'bitemporallaw35.RecordSame', WHERE WHAT IT READS IS OF BULK AT MOST 1048576: true; the input reads as it did. -/
def recordSameUptoRow : OpenClaim := { program := "ytbfdegkickjbpaagreat", sum := "9a0402b29989edf7483206a191e5a023eebcadfb28a716b61fdb2f5dac831b03", func := "bitemporal/bitemporallaw35.RecordSame", spec := "recordSame", inPlace := ["internal/bytealg.abigen_runtime_cmpstring"], unfollowed := true, recurses := true, loops := true, apart := false, narrowed := true }
def RecordSameUptoSaid : Prop := recordSameUptoRow.holds Tryz.pinned (OpenSpec.upto recordSameSpec)

/-- 'bitemporallaw35.RecordStates', WHERE WHAT IT READS IS OF BULK AT MOST 1048576: true; the input reads as it did. -/
def recordStatesUptoRow : OpenClaim := { program := "ytbfdegkickjbpaagreat", sum := "9a0402b29989edf7483206a191e5a023eebcadfb28a716b61fdb2f5dac831b03", func := "bitemporal/bitemporallaw35.RecordStates", spec := "recordStates", unfollowed := true, recurses := true, loops := true, apart := false, narrowed := true }
def RecordStatesUptoSaid : Prop := recordStatesUptoRow.holds Tryz.pinned (OpenSpec.upto recordStatesSpec)

/-- 'bitemporallaw35.RecordBack', WHERE WHAT IT READS IS OF BULK AT MOST 1048576: true; the input reads as it did. -/
def recordBackUptoRow : OpenClaim := { program := "ytbfdegkickjbpaagreat", sum := "9a0402b29989edf7483206a191e5a023eebcadfb28a716b61fdb2f5dac831b03", func := "bitemporal/bitemporallaw35.RecordBack", spec := "recordBack", unfollowed := true, recurses := true, loops := true, apart := false, narrowed := true }
def RecordBackUptoSaid : Prop := recordBackUptoRow.holds Tryz.pinned (OpenSpec.upto recordBackSpec)

end Rows
end Go.Proofs.YtbfdegkickjbpaaGreat
