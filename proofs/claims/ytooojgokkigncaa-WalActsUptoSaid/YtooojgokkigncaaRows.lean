/-
  No cell of these rows narrows 'for every input' (looked for: loops, veiled, ifaces, maps, wideKeys, modest, calm, conditions, laid).
  DERIVED. THE GIVEN ROWS OF THIS SEAT. 9 by the template 'for every input the law returns true; each argument reads behind the call as it read before'; 0 by the template 'total and deterministic' (their statements: YtooojgokkigncaaTotals.lean).
  GIVEN WITH THE SEED: the statements are not yours to turn. If you find one false, say at which input.
  Laid BY PROGRAM, IN A SANDBOX (cutbox-rows.mjs): the forced cells as the released guide's own fill.sh prints them over the translation 3793498c47e3c1ff… (all of the seat's roots in one cut). By AI agents, Wed Nov 11 2026. No macro, syntax, notation, axiom, sorry.
-/
import Derived.Test.YtooojgokkigncaaChecked
import GoSem.Claim
import GoSem.ClaimJoined
import GoSem.ClaimMapViews
import Derived.JoinedTies
import Derived.KernelRfl
namespace Go.Proofs.Ytooojgokkigncaa
/- THE CELL 'sum', in the pinned program and in every row, IS THE sha256 OF THE DUMP (.gsa) THAT YtooojgokkigncaaProg.lean LOADS. Nothing in Lean hashes anything: it is a label: what it is worth is what the hold of that sum in a sandbox is worth. -/
noncomputable def Try.pinned : Pinned := { name := "ytooojgokkigncaa", sum := "3793498c47e3c1ff0b6df80a507d4c94cdad85d7e7719d910a14a274c522308f", checked := Try.checked }
namespace Rows
def none {H : Type} : Left H := { results := [], args := [] }

/-- 'bitemporallaw36.WalDurable': WHATEVER THE INPUT: true; the input reads as it did. -/
def walDurableSpec : ChangeSpec := { name := "walDurable", fn := fun _ => fun
  | [d1, d2, d3, d4] => { results := [.lit (.bool true)], args := [d1, d2, d3, d4] }
  | _ => none }
def walDurableRow : OpenClaim := { program := "ytooojgokkigncaa", sum := "3793498c47e3c1ff0b6df80a507d4c94cdad85d7e7719d910a14a274c522308f", func := "bitemporal/bitemporallaw36.WalDurable", spec := "walDurable", inPlace := ["maps.clone"], apart := false }
def WalDurableSaid : Prop := walDurableRow.holds Try.pinned (OpenSpec.ofChange walDurableSpec)

/-- ITS FALSE NEIGHBOUR: 'it returns false'. Refute it at one input. -/
def walDurableWrong : ChangeSpec := { name := "walDurable", fn := fun _ => fun
  | [d1, d2, d3, d4] => { results := [.lit (.bool false)], args := [d1, d2, d3, d4] }
  | _ => none }
def WalDurableWrongFalsely : Prop := walDurableRow.holds Try.pinned (OpenSpec.ofChange walDurableWrong)

/-- 'bitemporallaw34.DiskLoad': WHATEVER THE INPUT: true; the input reads as it did. -/
def diskLoadSpec : ChangeSpec := { name := "diskLoad", fn := fun _ => fun
  | [d1, d2] => { results := [.lit (.bool true)], args := [d1, d2] }
  | _ => none }
def diskLoadRow : OpenClaim := { program := "ytooojgokkigncaa", sum := "3793498c47e3c1ff0b6df80a507d4c94cdad85d7e7719d910a14a274c522308f", func := "bitemporal/bitemporallaw34.DiskLoad", spec := "diskLoad", inPlace := ["maps.clone"], unfollowed := true, recurses := true, apart := false }
def DiskLoadSaid : Prop := diskLoadRow.holds Try.pinned (OpenSpec.ofChange diskLoadSpec)

/-- ITS FALSE NEIGHBOUR: 'it returns false'. Refute it at one input. -/
def diskLoadWrong : ChangeSpec := { name := "diskLoad", fn := fun _ => fun
  | [d1, d2] => { results := [.lit (.bool false)], args := [d1, d2] }
  | _ => none }
def DiskLoadWrongFalsely : Prop := diskLoadRow.holds Try.pinned (OpenSpec.ofChange diskLoadWrong)

/-- 'bitemporallaw34.DiskActs': WHATEVER THE INPUT: true; the input reads as it did. -/
def diskActsSpec : ChangeSpec := { name := "diskActs", fn := fun _ => fun
  | [d1, d2] => { results := [.lit (.bool true)], args := [d1, d2] }
  | _ => none }
def diskActsRow : OpenClaim := { program := "ytooojgokkigncaa", sum := "3793498c47e3c1ff0b6df80a507d4c94cdad85d7e7719d910a14a274c522308f", func := "bitemporal/bitemporallaw34.DiskActs", spec := "diskActs", inPlace := ["maps.clone"], unfollowed := true, recurses := true, apart := false }
def DiskActsSaid : Prop := diskActsRow.holds Try.pinned (OpenSpec.ofChange diskActsSpec)

/-- ITS FALSE NEIGHBOUR: 'it returns false'. Refute it at one input. -/
def diskActsWrong : ChangeSpec := { name := "diskActs", fn := fun _ => fun
  | [d1, d2] => { results := [.lit (.bool false)], args := [d1, d2] }
  | _ => none }
def DiskActsWrongFalsely : Prop := diskActsRow.holds Try.pinned (OpenSpec.ofChange diskActsWrong)

/-- 'bitemporallaw34.DiskRead': WHATEVER THE INPUT: true; the input reads as it did. -/
def diskReadSpec : ChangeSpec := { name := "diskRead", fn := fun _ => fun
  | [d1, d2, d3] => { results := [.lit (.bool true)], args := [d1, d2, d3] }
  | _ => none }
def diskReadRow : OpenClaim := { program := "ytooojgokkigncaa", sum := "3793498c47e3c1ff0b6df80a507d4c94cdad85d7e7719d910a14a274c522308f", func := "bitemporal/bitemporallaw34.DiskRead", spec := "diskRead", inPlace := ["maps.clone"], unfollowed := true, recurses := true, apart := false }
def DiskReadSaid : Prop := diskReadRow.holds Try.pinned (OpenSpec.ofChange diskReadSpec)

/-- ITS FALSE NEIGHBOUR: 'it returns false'. Refute it at one input. -/
def diskReadWrong : ChangeSpec := { name := "diskRead", fn := fun _ => fun
  | [d1, d2, d3] => { results := [.lit (.bool false)], args := [d1, d2, d3] }
  | _ => none }
def DiskReadWrongFalsely : Prop := diskReadRow.holds Try.pinned (OpenSpec.ofChange diskReadWrong)

/-- 'bitemporallaw34.DiskPrefix': WHATEVER THE INPUT: true; the input reads as it did. -/
def diskPrefixSpec : ChangeSpec := { name := "diskPrefix", fn := fun _ => fun
  | [d1, d2, d3] => { results := [.lit (.bool true)], args := [d1, d2, d3] }
  | _ => none }
def diskPrefixRow : OpenClaim := { program := "ytooojgokkigncaa", sum := "3793498c47e3c1ff0b6df80a507d4c94cdad85d7e7719d910a14a274c522308f", func := "bitemporal/bitemporallaw34.DiskPrefix", spec := "diskPrefix", inPlace := ["maps.clone"], unfollowed := true, recurses := true, apart := false }
def DiskPrefixSaid : Prop := diskPrefixRow.holds Try.pinned (OpenSpec.ofChange diskPrefixSpec)

/-- ITS FALSE NEIGHBOUR: 'it returns false'. Refute it at one input. -/
def diskPrefixWrong : ChangeSpec := { name := "diskPrefix", fn := fun _ => fun
  | [d1, d2, d3] => { results := [.lit (.bool false)], args := [d1, d2, d3] }
  | _ => none }
def DiskPrefixWrongFalsely : Prop := diskPrefixRow.holds Try.pinned (OpenSpec.ofChange diskPrefixWrong)

/-- 'bitemporallaw34.DiskSync': WHATEVER THE INPUT: true; the input reads as it did. -/
def diskSyncSpec : ChangeSpec := { name := "diskSync", fn := fun _ => fun
  | [d1, d2, d3] => { results := [.lit (.bool true)], args := [d1, d2, d3] }
  | _ => none }
def diskSyncRow : OpenClaim := { program := "ytooojgokkigncaa", sum := "3793498c47e3c1ff0b6df80a507d4c94cdad85d7e7719d910a14a274c522308f", func := "bitemporal/bitemporallaw34.DiskSync", spec := "diskSync", inPlace := ["maps.clone"], unfollowed := true, recurses := true, apart := false }
def DiskSyncSaid : Prop := diskSyncRow.holds Try.pinned (OpenSpec.ofChange diskSyncSpec)

/-- ITS FALSE NEIGHBOUR: 'it returns false'. Refute it at one input. -/
def diskSyncWrong : ChangeSpec := { name := "diskSync", fn := fun _ => fun
  | [d1, d2, d3] => { results := [.lit (.bool false)], args := [d1, d2, d3] }
  | _ => none }
def DiskSyncWrongFalsely : Prop := diskSyncRow.holds Try.pinned (OpenSpec.ofChange diskSyncWrong)

/-- 'bitemporallaw36.WalAgain': WHATEVER THE INPUT: true; the input reads as it did. -/
def walAgainSpec : ChangeSpec := { name := "walAgain", fn := fun _ => fun
  | [d1, d2] => { results := [.lit (.bool true)], args := [d1, d2] }
  | _ => none }
def walAgainRow : OpenClaim := { program := "ytooojgokkigncaa", sum := "3793498c47e3c1ff0b6df80a507d4c94cdad85d7e7719d910a14a274c522308f", func := "bitemporal/bitemporallaw36.WalAgain", spec := "walAgain", inPlace := ["maps.clone"], unfollowed := true, recurses := true, apart := false }
def WalAgainSaid : Prop := walAgainRow.holds Try.pinned (OpenSpec.ofChange walAgainSpec)

/-- ITS FALSE NEIGHBOUR: 'it returns false'. Refute it at one input. -/
def walAgainWrong : ChangeSpec := { name := "walAgain", fn := fun _ => fun
  | [d1, d2] => { results := [.lit (.bool false)], args := [d1, d2] }
  | _ => none }
def WalAgainWrongFalsely : Prop := walAgainRow.holds Try.pinned (OpenSpec.ofChange walAgainWrong)

/-- 'bitemporallaw36.WalOpen': WHATEVER THE INPUT: true; the input reads as it did. -/
def walOpenSpec : ChangeSpec := { name := "walOpen", fn := fun _ => fun
  | [d1, d2] => { results := [.lit (.bool true)], args := [d1, d2] }
  | _ => none }
def walOpenRow : OpenClaim := { program := "ytooojgokkigncaa", sum := "3793498c47e3c1ff0b6df80a507d4c94cdad85d7e7719d910a14a274c522308f", func := "bitemporal/bitemporallaw36.WalOpen", spec := "walOpen", inPlace := ["maps.clone"], unfollowed := true, recurses := true, apart := false }
def WalOpenSaid : Prop := walOpenRow.holds Try.pinned (OpenSpec.ofChange walOpenSpec)

/-- ITS FALSE NEIGHBOUR: 'it returns false'. Refute it at one input. -/
def walOpenWrong : ChangeSpec := { name := "walOpen", fn := fun _ => fun
  | [d1, d2] => { results := [.lit (.bool false)], args := [d1, d2] }
  | _ => none }
def WalOpenWrongFalsely : Prop := walOpenRow.holds Try.pinned (OpenSpec.ofChange walOpenWrong)

/-- 'bitemporallaw36.WalActs': WHATEVER THE INPUT: true; the input reads as it did. -/
def walActsSpec : ChangeSpec := { name := "walActs", fn := fun _ => fun
  | [d1, d2, d3] => { results := [.lit (.bool true)], args := [d1, d2, d3] }
  | _ => none }
def walActsRow : OpenClaim := { program := "ytooojgokkigncaa", sum := "3793498c47e3c1ff0b6df80a507d4c94cdad85d7e7719d910a14a274c522308f", func := "bitemporal/bitemporallaw36.WalActs", spec := "walActs", inPlace := ["maps.clone"], unfollowed := true, recurses := true, apart := false }
def WalActsSaid : Prop := walActsRow.holds Try.pinned (OpenSpec.ofChange walActsSpec)

/-- ITS FALSE NEIGHBOUR: 'it returns false'. Refute it at one input. -/
def walActsWrong : ChangeSpec := { name := "walActs", fn := fun _ => fun
  | [d1, d2, d3] => { results := [.lit (.bool false)], args := [d1, d2, d3] }
  | _ => none }
def WalActsWrongFalsely : Prop := walActsRow.holds Try.pinned (OpenSpec.ofChange walActsWrong)

/- THE SECOND FORM. 'bulk': how many values and letters a reading holds, each counted each time it is reached (what is shared counts as often as it is met; a slice's spare places count too). A statement '..UptoSaid' is the law's where the arguments, and the package variables that the reading takes, are together of bulk at most 1048576: NARROWER than '..Said'. Prove '..Said' where nothing that the law and all that it calls make is longer than what came in: it says more and counts as full. Else prove '..UptoSaid'. A law counts once. -/
mutual
def uptoBulk {H : Type} : DataW H → Nat
  | .lit (.string bytes) => bytes.length + 1
  | .lit _ => 1
  | .nil => 1
  | .ptr d => uptoBulk d + 1
  | .slice elems spare => uptoBulkAll elems + uptoBulkAll spare + 1
  | .agg parts => uptoBulkAll parts + 1
  | .iface _ d => uptoBulk d + 1
  | .map entries => uptoBulkEntries entries + 1
  | .held _ => 1
def uptoBulkAll {H : Type} : List (DataW H) → Nat
  | [] => 0
  | d :: r => uptoBulk d + uptoBulkAll r
def uptoBulkEntries {H : Type} : List (Lit × DataW H) → Nat
  | [] => 0
  | x :: r => uptoBulkEntry x + uptoBulkEntries r
def uptoBulkEntry {H : Type} : Lit × DataW H → Nat
  | (.string bytes, d) => bytes.length + uptoBulk d + 1
  | (_, d) => uptoBulk d + 1
 end
def uptoSmall : (H : Type) → List (DataW H) → Bool := fun _ ds => decide (uptoBulkAll ds ≤ 1048576)
def OpenSpec.upto (s : _root_.Go.ChangeSpec) : _root_.Go.OpenSpec := { _root_.Go.OpenSpec.ofChange s with cond := some uptoSmall }

/-- 'bitemporallaw36.WalDurable', WHERE WHAT IT READS IS OF BULK AT MOST 1048576: true; the input reads as it did. -/
def walDurableUptoRow : OpenClaim := { program := "ytooojgokkigncaa", sum := "3793498c47e3c1ff0b6df80a507d4c94cdad85d7e7719d910a14a274c522308f", func := "bitemporal/bitemporallaw36.WalDurable", spec := "walDurable", inPlace := ["maps.clone"], apart := false, narrowed := true }
def WalDurableUptoSaid : Prop := walDurableUptoRow.holds Try.pinned (OpenSpec.upto walDurableSpec)

/-- 'bitemporallaw34.DiskLoad', WHERE WHAT IT READS IS OF BULK AT MOST 1048576: true; the input reads as it did. -/
def diskLoadUptoRow : OpenClaim := { program := "ytooojgokkigncaa", sum := "3793498c47e3c1ff0b6df80a507d4c94cdad85d7e7719d910a14a274c522308f", func := "bitemporal/bitemporallaw34.DiskLoad", spec := "diskLoad", inPlace := ["maps.clone"], unfollowed := true, recurses := true, apart := false, narrowed := true }
def DiskLoadUptoSaid : Prop := diskLoadUptoRow.holds Try.pinned (OpenSpec.upto diskLoadSpec)

/-- 'bitemporallaw34.DiskActs', WHERE WHAT IT READS IS OF BULK AT MOST 1048576: true; the input reads as it did. -/
def diskActsUptoRow : OpenClaim := { program := "ytooojgokkigncaa", sum := "3793498c47e3c1ff0b6df80a507d4c94cdad85d7e7719d910a14a274c522308f", func := "bitemporal/bitemporallaw34.DiskActs", spec := "diskActs", inPlace := ["maps.clone"], unfollowed := true, recurses := true, apart := false, narrowed := true }
def DiskActsUptoSaid : Prop := diskActsUptoRow.holds Try.pinned (OpenSpec.upto diskActsSpec)

/-- 'bitemporallaw34.DiskRead', WHERE WHAT IT READS IS OF BULK AT MOST 1048576: true; the input reads as it did. -/
def diskReadUptoRow : OpenClaim := { program := "ytooojgokkigncaa", sum := "3793498c47e3c1ff0b6df80a507d4c94cdad85d7e7719d910a14a274c522308f", func := "bitemporal/bitemporallaw34.DiskRead", spec := "diskRead", inPlace := ["maps.clone"], unfollowed := true, recurses := true, apart := false, narrowed := true }
def DiskReadUptoSaid : Prop := diskReadUptoRow.holds Try.pinned (OpenSpec.upto diskReadSpec)

/-- 'bitemporallaw34.DiskPrefix', WHERE WHAT IT READS IS OF BULK AT MOST 1048576: true; the input reads as it did. -/
def diskPrefixUptoRow : OpenClaim := { program := "ytooojgokkigncaa", sum := "3793498c47e3c1ff0b6df80a507d4c94cdad85d7e7719d910a14a274c522308f", func := "bitemporal/bitemporallaw34.DiskPrefix", spec := "diskPrefix", inPlace := ["maps.clone"], unfollowed := true, recurses := true, apart := false, narrowed := true }
def DiskPrefixUptoSaid : Prop := diskPrefixUptoRow.holds Try.pinned (OpenSpec.upto diskPrefixSpec)

/-- 'bitemporallaw34.DiskSync', WHERE WHAT IT READS IS OF BULK AT MOST 1048576: true; the input reads as it did. -/
def diskSyncUptoRow : OpenClaim := { program := "ytooojgokkigncaa", sum := "3793498c47e3c1ff0b6df80a507d4c94cdad85d7e7719d910a14a274c522308f", func := "bitemporal/bitemporallaw34.DiskSync", spec := "diskSync", inPlace := ["maps.clone"], unfollowed := true, recurses := true, apart := false, narrowed := true }
def DiskSyncUptoSaid : Prop := diskSyncUptoRow.holds Try.pinned (OpenSpec.upto diskSyncSpec)

/-- 'bitemporallaw36.WalAgain', WHERE WHAT IT READS IS OF BULK AT MOST 1048576: true; the input reads as it did. -/
def walAgainUptoRow : OpenClaim := { program := "ytooojgokkigncaa", sum := "3793498c47e3c1ff0b6df80a507d4c94cdad85d7e7719d910a14a274c522308f", func := "bitemporal/bitemporallaw36.WalAgain", spec := "walAgain", inPlace := ["maps.clone"], unfollowed := true, recurses := true, apart := false, narrowed := true }
def WalAgainUptoSaid : Prop := walAgainUptoRow.holds Try.pinned (OpenSpec.upto walAgainSpec)

/-- 'bitemporallaw36.WalOpen', WHERE WHAT IT READS IS OF BULK AT MOST 1048576: true; the input reads as it did. -/
def walOpenUptoRow : OpenClaim := { program := "ytooojgokkigncaa", sum := "3793498c47e3c1ff0b6df80a507d4c94cdad85d7e7719d910a14a274c522308f", func := "bitemporal/bitemporallaw36.WalOpen", spec := "walOpen", inPlace := ["maps.clone"], unfollowed := true, recurses := true, apart := false, narrowed := true }
def WalOpenUptoSaid : Prop := walOpenUptoRow.holds Try.pinned (OpenSpec.upto walOpenSpec)

/-- 'bitemporallaw36.WalActs', WHERE WHAT IT READS IS OF BULK AT MOST 1048576: true; the input reads as it did. -/
def walActsUptoRow : OpenClaim := { program := "ytooojgokkigncaa", sum := "3793498c47e3c1ff0b6df80a507d4c94cdad85d7e7719d910a14a274c522308f", func := "bitemporal/bitemporallaw36.WalActs", spec := "walActs", inPlace := ["maps.clone"], unfollowed := true, recurses := true, apart := false, narrowed := true }
def WalActsUptoSaid : Prop := walActsUptoRow.holds Try.pinned (OpenSpec.upto walActsSpec)

end Rows
end Go.Proofs.Ytooojgokkigncaa
