/-
  DERIVED. GIVEN WITH THE SEED: THE CARDS: each row of YthjephhojngiaaaDoorRows.lean that lists a variable, with what it lists TIED to the program's text (the seventh form; the later family's looks); each row that meets fmt, with fmt's text TOLD by the authors' own Lean function (tested against real Go, not proved from fmt's source: count such statements apart). THE CARD IS WHAT COUNTS. Prove the row's statement (the work); the ties are given (YthjephhojngiaaaDoorTie.lean); close each card by the builder's one call (the guide's Derived/Test/ToyasCard.lean, 'card_holds'). Laid BY PROGRAM, IN A SANDBOX (cutbox-door.mjs). By AI agents, Wed Nov 11 2026. No macro, syntax, notation, axiom, sorry.
-/
import Derived.Test.YthjephhojngiaaaDoorRows
import GoSem.ClaimSeven
namespace Go.Proofs.YthjephhojngiaaaDoor
namespace Rows

/-- THE TIED CARD OF 'bitemporallaw39.ManifestName'. -/
def manifestNameCard : Claim7 := { stood := { row := manifestNameRow, standIns := [], harness := (true, "42a73e9b12c70be080718366bca1ea872955b5b85a6e3a8630063a29c7d02ae5"), looks := true }, kinds := [], alts := [], laidByText := true, laidKinds := [.data, .data, .data], laidTests := true, laidLooks := .later }
def ManifestNameCardSaid : Prop := Claim7.holds Tryd.pinned (.plain (OpenSpec.ofChange manifestNameSpec)) manifestNameCard

/-- THE TIED CARD OF 'bitemporallaw39.ManifestEncode'. -/
def manifestEncodeCard : Claim7 := { stood := { row := manifestEncodeRow, standIns := [], harness := (true, "42a73e9b12c70be080718366bca1ea872955b5b85a6e3a8630063a29c7d02ae5"), looks := true }, kinds := [], alts := [], laidByText := true, laidKinds := [.data, .data, .data], laidTests := true, laidLooks := .later }
def ManifestEncodeCardSaid : Prop := Claim7.holds Tryd.pinned (.plain (OpenSpec.ofChange manifestEncodeSpec)) manifestEncodeCard

/-- THE TIED CARD OF 'bitemporallaw39.ManifestDecode'. -/
def manifestDecodeCard : Claim7 := { stood := { row := manifestDecodeRow, standIns := [], harness := (true, "42a73e9b12c70be080718366bca1ea872955b5b85a6e3a8630063a29c7d02ae5"), looks := true }, kinds := [], alts := [], laidByText := true, laidKinds := [.data, .data, .data], laidTests := true, laidLooks := .later }
def ManifestDecodeCardSaid : Prop := Claim7.holds Tryd.pinned (.plain (OpenSpec.ofChange manifestDecodeSpec)) manifestDecodeCard

/-- THE TIED CARD OF 'bitemporallaw39.ManifestAtomic'. -/
def manifestAtomicCard : Claim7 := { stood := { row := manifestAtomicRow, standIns := [], harness := (true, "42a73e9b12c70be080718366bca1ea872955b5b85a6e3a8630063a29c7d02ae5"), looks := true }, kinds := [], alts := [], laidByText := true, laidKinds := [.data, .data, .data], laidTests := true, laidLooks := .later }
def ManifestAtomicCardSaid : Prop := Claim7.holds Tryd.pinned (.plain (OpenSpec.ofChange manifestAtomicSpec)) manifestAtomicCard

/-- THE SECOND FORM's CARD OF 'bitemporallaw39.ManifestName'. -/
def manifestNameUptoCard : Claim7 := { stood := { row := manifestNameUptoRow, standIns := [], harness := (true, "42a73e9b12c70be080718366bca1ea872955b5b85a6e3a8630063a29c7d02ae5"), looks := true }, kinds := [], alts := [], laidByText := true, laidKinds := [.data, .data, .data], laidTests := true, laidLooks := .later }
def ManifestNameUptoCardSaid : Prop := Claim7.holds Tryd.pinned (.plain (OpenSpec.upto manifestNameSpec)) manifestNameUptoCard

/-- THE SECOND FORM's CARD OF 'bitemporallaw39.ManifestEncode'. -/
def manifestEncodeUptoCard : Claim7 := { stood := { row := manifestEncodeUptoRow, standIns := [], harness := (true, "42a73e9b12c70be080718366bca1ea872955b5b85a6e3a8630063a29c7d02ae5"), looks := true }, kinds := [], alts := [], laidByText := true, laidKinds := [.data, .data, .data], laidTests := true, laidLooks := .later }
def ManifestEncodeUptoCardSaid : Prop := Claim7.holds Tryd.pinned (.plain (OpenSpec.upto manifestEncodeSpec)) manifestEncodeUptoCard

/-- THE SECOND FORM's CARD OF 'bitemporallaw39.ManifestDecode'. -/
def manifestDecodeUptoCard : Claim7 := { stood := { row := manifestDecodeUptoRow, standIns := [], harness := (true, "42a73e9b12c70be080718366bca1ea872955b5b85a6e3a8630063a29c7d02ae5"), looks := true }, kinds := [], alts := [], laidByText := true, laidKinds := [.data, .data, .data], laidTests := true, laidLooks := .later }
def ManifestDecodeUptoCardSaid : Prop := Claim7.holds Tryd.pinned (.plain (OpenSpec.upto manifestDecodeSpec)) manifestDecodeUptoCard

/-- THE SECOND FORM's CARD OF 'bitemporallaw39.ManifestAtomic'. -/
def manifestAtomicUptoCard : Claim7 := { stood := { row := manifestAtomicUptoRow, standIns := [], harness := (true, "42a73e9b12c70be080718366bca1ea872955b5b85a6e3a8630063a29c7d02ae5"), looks := true }, kinds := [], alts := [], laidByText := true, laidKinds := [.data, .data, .data], laidTests := true, laidLooks := .later }
def ManifestAtomicUptoCardSaid : Prop := Claim7.holds Tryd.pinned (.plain (OpenSpec.upto manifestAtomicSpec)) manifestAtomicUptoCard
end Rows
end Go.Proofs.YthjephhojngiaaaDoor
