/-
  DERIVED. GIVEN WITH THE SEED: THE CARDS: each row of YthbaafcoidjflaaGreatDoorRows.lean that lists a variable, with what it lists TIED to the program's text (the seventh form; the later family's looks); each row that meets fmt, with fmt's text TOLD by the authors' own Lean function (tested against real Go, not proved from fmt's source: count such statements apart). THE CARD IS WHAT COUNTS. Prove the row's statement (the work); the ties are given (YthbaafcoidjflaaGreatDoorTie.lean); close each card by the builder's one call (the guide's Derived/Test/ToyasCard.lean, 'card_holds'). Laid BY PROGRAM, IN A SANDBOX (cutbox-door.mjs). By AI agents, Wed Nov 11 2026. No macro, syntax, notation, axiom, sorry.
-/
import Derived.Test.YthbaafcoidjflaaGreatDoorRows
import GoSem.ClaimSeven
namespace Go.Proofs.YthbaafcoidjflaaGreatDoor
namespace Rows

/-- THE TIED CARD OF 'pleachlaw43.LineShows'. -/
def lineShowsCard : Claim7 := { stood := { row := lineShowsRow, standIns := [], harness := (true, "37c322a846269f2a6058176da1fdc10782fe381962436e72b44f1cc4d0f1b0e7"), looks := true }, kinds := [], alts := [], laidByText := true, laidKinds := [.data, .data, .data, .data, .sentinel, .sentinel, .pinned], laidTests := true, laidLooks := .later }
def LineShowsCardSaid : Prop := Claim7.holds Tryz.pinned (.plain (OpenSpec.ofChange lineShowsSpec)) lineShowsCard

/-- THE TIED CARD OF 'pleachlaw43.LineParses'. -/
def lineParsesCard : Claim7 := { stood := { row := lineParsesRow, standIns := [], harness := (true, "37c322a846269f2a6058176da1fdc10782fe381962436e72b44f1cc4d0f1b0e7"), looks := true }, kinds := [], alts := [], laidByText := true, laidKinds := [.data, .data, .data, .data, .sentinel, .sentinel, .pinned], laidTests := true, laidLooks := .later }
def LineParsesCardSaid : Prop := Claim7.holds Tryz.pinned (.plain (OpenSpec.ofChange lineParsesSpec)) lineParsesCard

/-- THE TIED CARD OF 'pleachlaw43.LineBack'. -/
def lineBackCard : Claim7 := { stood := { row := lineBackRow, standIns := [], harness := (true, "37c322a846269f2a6058176da1fdc10782fe381962436e72b44f1cc4d0f1b0e7"), looks := true }, kinds := [], alts := [], laidByText := true, laidKinds := [.data, .data, .data, .data, .sentinel, .sentinel, .pinned], laidTests := true, laidLooks := .later }
def LineBackCardSaid : Prop := Claim7.holds Tryz.pinned (.plain (OpenSpec.ofChange lineBackSpec)) lineBackCard

/-- THE TIED CARD OF 'pleachlaw43.LineGraphs'. -/
def lineGraphsCard : Claim7 := { stood := { row := lineGraphsRow, standIns := [], harness := (true, "37c322a846269f2a6058176da1fdc10782fe381962436e72b44f1cc4d0f1b0e7"), looks := true }, kinds := [], alts := [], laidByText := true, laidKinds := [.data, .data, .data, .data, .sentinel, .sentinel, .pinned], laidTests := true, laidLooks := .later }
def LineGraphsCardSaid : Prop := Claim7.holds Tryz.pinned (.plain (OpenSpec.ofChange lineGraphsSpec)) lineGraphsCard

/-- THE SECOND FORM's CARD OF 'pleachlaw43.LineShows'. -/
def lineShowsUptoCard : Claim7 := { stood := { row := lineShowsUptoRow, standIns := [], harness := (true, "37c322a846269f2a6058176da1fdc10782fe381962436e72b44f1cc4d0f1b0e7"), looks := true }, kinds := [], alts := [], laidByText := true, laidKinds := [.data, .data, .data, .data, .sentinel, .sentinel, .pinned], laidTests := true, laidLooks := .later }
def LineShowsUptoCardSaid : Prop := Claim7.holds Tryz.pinned (.plain (OpenSpec.upto lineShowsSpec)) lineShowsUptoCard

/-- THE SECOND FORM's CARD OF 'pleachlaw43.LineParses'. -/
def lineParsesUptoCard : Claim7 := { stood := { row := lineParsesUptoRow, standIns := [], harness := (true, "37c322a846269f2a6058176da1fdc10782fe381962436e72b44f1cc4d0f1b0e7"), looks := true }, kinds := [], alts := [], laidByText := true, laidKinds := [.data, .data, .data, .data, .sentinel, .sentinel, .pinned], laidTests := true, laidLooks := .later }
def LineParsesUptoCardSaid : Prop := Claim7.holds Tryz.pinned (.plain (OpenSpec.upto lineParsesSpec)) lineParsesUptoCard

/-- THE SECOND FORM's CARD OF 'pleachlaw43.LineBack'. -/
def lineBackUptoCard : Claim7 := { stood := { row := lineBackUptoRow, standIns := [], harness := (true, "37c322a846269f2a6058176da1fdc10782fe381962436e72b44f1cc4d0f1b0e7"), looks := true }, kinds := [], alts := [], laidByText := true, laidKinds := [.data, .data, .data, .data, .sentinel, .sentinel, .pinned], laidTests := true, laidLooks := .later }
def LineBackUptoCardSaid : Prop := Claim7.holds Tryz.pinned (.plain (OpenSpec.upto lineBackSpec)) lineBackUptoCard

/-- THE SECOND FORM's CARD OF 'pleachlaw43.LineGraphs'. -/
def lineGraphsUptoCard : Claim7 := { stood := { row := lineGraphsUptoRow, standIns := [], harness := (true, "37c322a846269f2a6058176da1fdc10782fe381962436e72b44f1cc4d0f1b0e7"), looks := true }, kinds := [], alts := [], laidByText := true, laidKinds := [.data, .data, .data, .data, .sentinel, .sentinel, .pinned], laidTests := true, laidLooks := .later }
def LineGraphsUptoCardSaid : Prop := Claim7.holds Tryz.pinned (.plain (OpenSpec.upto lineGraphsSpec)) lineGraphsUptoCard
end Rows
end Go.Proofs.YthbaafcoidjflaaGreatDoor
