/-
  DERIVED. GIVEN WITH THE SEED: THE CARDS: each row of YthjephhojngiaaaGreatDoorRows.lean that lists a variable, with what it lists TIED to the program's text (the seventh form; the later family's looks); each row that meets fmt, with fmt's text TOLD by the authors' own Lean function (tested against real Go, not proved from fmt's source: count such statements apart). THE CARD IS WHAT COUNTS. Prove the row's statement (the work); the ties are given (YthjephhojngiaaaGreatDoorTie.lean); close each card by the builder's one call (the guide's Derived/Test/ToyasCard.lean, 'card_holds'). Laid BY PROGRAM, IN A SANDBOX (cutbox-door.mjs). By AI agents, Wed Nov 11 2026. No macro, syntax, notation, axiom, sorry.
-/
import Derived.Test.YthjephhojngiaaaGreatDoorRows
import GoSem.ClaimSeven
namespace Go.Proofs.YthjephhojngiaaaGreatDoor
namespace Rows

/-- THE TIED CARD OF 'bitemporallaw39.ManifestWrite'. -/
def manifestWriteCard : Claim7 := { stood := { row := manifestWriteRow, standIns := [], harness := (true, "b7858a731cd6cd1ef4127e6e398fc9ffd9f01cded2d4faffc3909ecefa9db909"), looks := true }, kinds := [], alts := [], laidByText := true, laidKinds := [.data, .data, .data], laidTests := true, laidLooks := .later }
def ManifestWriteCardSaid : Prop := Claim7.holds Tryz.pinned (.plain (OpenSpec.ofChange manifestWriteSpec)) manifestWriteCard

/-- THE TIED CARD OF 'bitemporallaw39.ManifestUnused'. -/
def manifestUnusedCard : Claim7 := { stood := { row := manifestUnusedRow, standIns := [], harness := (true, "b7858a731cd6cd1ef4127e6e398fc9ffd9f01cded2d4faffc3909ecefa9db909"), looks := true }, kinds := [], alts := [], laidByText := true, laidKinds := [.data, .data, .data], laidTests := true, laidLooks := .later }
def ManifestUnusedCardSaid : Prop := Claim7.holds Tryz.pinned (.plain (OpenSpec.ofChange manifestUnusedSpec)) manifestUnusedCard

/-- THE SECOND FORM's CARD OF 'bitemporallaw39.ManifestWrite'. -/
def manifestWriteUptoCard : Claim7 := { stood := { row := manifestWriteUptoRow, standIns := [], harness := (true, "b7858a731cd6cd1ef4127e6e398fc9ffd9f01cded2d4faffc3909ecefa9db909"), looks := true }, kinds := [], alts := [], laidByText := true, laidKinds := [.data, .data, .data], laidTests := true, laidLooks := .later }
def ManifestWriteUptoCardSaid : Prop := Claim7.holds Tryz.pinned (.plain (OpenSpec.upto manifestWriteSpec)) manifestWriteUptoCard

/-- THE SECOND FORM's CARD OF 'bitemporallaw39.ManifestUnused'. -/
def manifestUnusedUptoCard : Claim7 := { stood := { row := manifestUnusedUptoRow, standIns := [], harness := (true, "b7858a731cd6cd1ef4127e6e398fc9ffd9f01cded2d4faffc3909ecefa9db909"), looks := true }, kinds := [], alts := [], laidByText := true, laidKinds := [.data, .data, .data], laidTests := true, laidLooks := .later }
def ManifestUnusedUptoCardSaid : Prop := Claim7.holds Tryz.pinned (.plain (OpenSpec.upto manifestUnusedSpec)) manifestUnusedUptoCard
end Rows
end Go.Proofs.YthjephhojngiaaaGreatDoor
