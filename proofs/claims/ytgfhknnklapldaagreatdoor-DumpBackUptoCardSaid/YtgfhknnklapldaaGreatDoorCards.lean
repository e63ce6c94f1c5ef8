/-
  DERIVED. GIVEN WITH THE SEED: THE CARDS: each row of YtgfhknnklapldaaGreatDoorRows.lean that lists a variable, with what it lists TIED to the program's text (the seventh form; the later family's looks); each row that meets fmt, with fmt's text TOLD by the authors' own Lean function (tested against real Go, not proved from fmt's source: count such statements apart). THE CARD IS WHAT COUNTS. Prove the row's statement (the work); the ties are given (YtgfhknnklapldaaGreatDoorTie.lean); close each card by the builder's one call (the guide's Derived/Test/ToyasCard.lean, 'card_holds'). Laid BY PROGRAM, IN A SANDBOX (cutbox-door.mjs). By AI agents, Wed Nov 11 2026. No macro, syntax, notation, axiom, sorry.
-/
import Derived.Test.YtgfhknnklapldaaGreatDoorRows
import GoSem.ClaimSeven
namespace Go.Proofs.YtgfhknnklapldaaGreatDoor
namespace Rows

/-- THE TIED CARD OF 'bitemporallaw54.DumpText'. -/
def dumpTextCard : Claim7 := { stood := { row := dumpTextRow, standIns := [], harness := (true, "7e61f0c267262facfe4fca62d0db8d0dce4ff095c08b3ef1fbd8f48fae79e4bc"), looks := true }, kinds := [], alts := [], laidByText := true, laidKinds := [.data, .data, .data, .data, .sentinel, .sentinel, .pinned], laidTests := true, laidLooks := .later }
def DumpTextCardSaid : Prop := Claim7.holds Tryz.pinned (.plain (OpenSpec.ofChange dumpTextSpec)) dumpTextCard

/-- THE TIED CARD OF 'bitemporallaw54.DumpTable'. -/
def dumpTableCard : Claim7 := { stood := { row := dumpTableRow, standIns := [], harness := (true, "7e61f0c267262facfe4fca62d0db8d0dce4ff095c08b3ef1fbd8f48fae79e4bc"), looks := true }, kinds := [], alts := [], laidByText := true, laidKinds := [.data, .data, .data, .data, .sentinel, .sentinel, .pinned], laidTests := true, laidLooks := .later }
def DumpTableCardSaid : Prop := Claim7.holds Tryz.pinned (.plain (OpenSpec.ofChange dumpTableSpec)) dumpTableCard

/-- THE TIED CARD OF 'bitemporallaw54.DumpParse'. -/
def dumpParseCard : Claim7 := { stood := { row := dumpParseRow, standIns := [], harness := (true, "7e61f0c267262facfe4fca62d0db8d0dce4ff095c08b3ef1fbd8f48fae79e4bc"), looks := true }, kinds := [], alts := [], laidByText := true, laidKinds := [.data, .data, .data, .data, .sentinel, .sentinel, .pinned], laidTests := true, laidLooks := .later }
def DumpParseCardSaid : Prop := Claim7.holds Tryz.pinned (.plain (OpenSpec.ofChange dumpParseSpec)) dumpParseCard

/-- THE TIED CARD OF 'bitemporallaw54.DumpBack'. -/
def dumpBackCard : Claim7 := { stood := { row := dumpBackRow, standIns := [], harness := (true, "7e61f0c267262facfe4fca62d0db8d0dce4ff095c08b3ef1fbd8f48fae79e4bc"), looks := true }, kinds := [], alts := [], laidByText := true, laidKinds := [.data, .data, .data, .data, .sentinel, .sentinel, .pinned], laidTests := true, laidLooks := .later }
def DumpBackCardSaid : Prop := Claim7.holds Tryz.pinned (.plain (OpenSpec.ofChange dumpBackSpec)) dumpBackCard

/-- THE TIED CARD OF 'bitemporallaw54.DumpTorn'. -/
def dumpTornCard : Claim7 := { stood := { row := dumpTornRow, standIns := [], harness := (true, "7e61f0c267262facfe4fca62d0db8d0dce4ff095c08b3ef1fbd8f48fae79e4bc"), looks := true }, kinds := [], alts := [], laidByText := true, laidKinds := [.data, .data, .data, .data, .sentinel, .sentinel, .pinned], laidTests := true, laidLooks := .later }
def DumpTornCardSaid : Prop := Claim7.holds Tryz.pinned (.plain (OpenSpec.ofChange dumpTornSpec)) dumpTornCard

/-- THE SECOND FORM's CARD OF 'bitemporallaw54.DumpText'. -/
def dumpTextUptoCard : Claim7 := { stood := { row := dumpTextUptoRow, standIns := [], harness := (true, "7e61f0c267262facfe4fca62d0db8d0dce4ff095c08b3ef1fbd8f48fae79e4bc"), looks := true }, kinds := [], alts := [], laidByText := true, laidKinds := [.data, .data, .data, .data, .sentinel, .sentinel, .pinned], laidTests := true, laidLooks := .later }
def DumpTextUptoCardSaid : Prop := Claim7.holds Tryz.pinned (.plain (OpenSpec.upto dumpTextSpec)) dumpTextUptoCard

/-- THE SECOND FORM's CARD OF 'bitemporallaw54.DumpTable'. -/
def dumpTableUptoCard : Claim7 := { stood := { row := dumpTableUptoRow, standIns := [], harness := (true, "7e61f0c267262facfe4fca62d0db8d0dce4ff095c08b3ef1fbd8f48fae79e4bc"), looks := true }, kinds := [], alts := [], laidByText := true, laidKinds := [.data, .data, .data, .data, .sentinel, .sentinel, .pinned], laidTests := true, laidLooks := .later }
def DumpTableUptoCardSaid : Prop := Claim7.holds Tryz.pinned (.plain (OpenSpec.upto dumpTableSpec)) dumpTableUptoCard

/-- THE SECOND FORM's CARD OF 'bitemporallaw54.DumpParse'. -/
def dumpParseUptoCard : Claim7 := { stood := { row := dumpParseUptoRow, standIns := [], harness := (true, "7e61f0c267262facfe4fca62d0db8d0dce4ff095c08b3ef1fbd8f48fae79e4bc"), looks := true }, kinds := [], alts := [], laidByText := true, laidKinds := [.data, .data, .data, .data, .sentinel, .sentinel, .pinned], laidTests := true, laidLooks := .later }
def DumpParseUptoCardSaid : Prop := Claim7.holds Tryz.pinned (.plain (OpenSpec.upto dumpParseSpec)) dumpParseUptoCard

/-- THE SECOND FORM's CARD OF 'bitemporallaw54.DumpBack'. -/
def dumpBackUptoCard : Claim7 := { stood := { row := dumpBackUptoRow, standIns := [], harness := (true, "7e61f0c267262facfe4fca62d0db8d0dce4ff095c08b3ef1fbd8f48fae79e4bc"), looks := true }, kinds := [], alts := [], laidByText := true, laidKinds := [.data, .data, .data, .data, .sentinel, .sentinel, .pinned], laidTests := true, laidLooks := .later }
def DumpBackUptoCardSaid : Prop := Claim7.holds Tryz.pinned (.plain (OpenSpec.upto dumpBackSpec)) dumpBackUptoCard

/-- THE SECOND FORM's CARD OF 'bitemporallaw54.DumpTorn'. -/
def dumpTornUptoCard : Claim7 := { stood := { row := dumpTornUptoRow, standIns := [], harness := (true, "7e61f0c267262facfe4fca62d0db8d0dce4ff095c08b3ef1fbd8f48fae79e4bc"), looks := true }, kinds := [], alts := [], laidByText := true, laidKinds := [.data, .data, .data, .data, .sentinel, .sentinel, .pinned], laidTests := true, laidLooks := .later }
def DumpTornUptoCardSaid : Prop := Claim7.holds Tryz.pinned (.plain (OpenSpec.upto dumpTornSpec)) dumpTornUptoCard
end Rows
end Go.Proofs.YtgfhknnklapldaaGreatDoor
