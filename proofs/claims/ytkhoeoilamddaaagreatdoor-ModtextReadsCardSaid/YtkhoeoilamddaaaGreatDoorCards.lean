/-
  DERIVED. GIVEN WITH THE SEED: THE CARDS: each row of YtkhoeoilamddaaaGreatDoorRows.lean that lists a variable, with what it lists TIED to the program's text (the seventh form; the later family's looks); each row that meets fmt, with fmt's text TOLD by the authors' own Lean function (tested against real Go, not proved from fmt's source: count such statements apart). THE CARD IS WHAT COUNTS. Prove the row's statement (the work); the ties are given (YtkhoeoilamddaaaGreatDoorTie.lean); close each card by the builder's one call (the guide's Derived/Test/ToyasCard.lean, 'card_holds'). Laid BY PROGRAM, IN A SANDBOX (cutbox-door.mjs). By AI agents, Wed Nov 11 2026. No macro, syntax, notation, axiom, sorry.
-/
import Derived.Test.YtkhoeoilamddaaaGreatDoorRows
import GoSem.ClaimSeven
namespace Go.Proofs.YtkhoeoilamddaaaGreatDoor
namespace Rows

/-- THE TIED CARD OF 'voussoirlaw34.ModtextReads'. -/
def modtextReadsCard : Claim7 := { stood := { row := modtextReadsRow, standIns := [], harness := (true, "009035be58323d578512b766fb199598c8094e783439b52c444cd6a760b9b3e3"), looks := true }, kinds := [], alts := [], laidByText := true, laidKinds := [.data, .widerDeep, .widerDeep, .pinned], laidTests := true, laidLooks := .later }
def ModtextReadsCardSaid : Prop := Claim7.holds Tryz.pinned (.plain (OpenSpec.ofChange modtextReadsSpec)) modtextReadsCard

/-- THE TIED CARD OF 'voussoirlaw34.ModtextShows'. -/
def modtextShowsCard : Claim7 := { stood := { row := modtextShowsRow, standIns := [], harness := (true, "009035be58323d578512b766fb199598c8094e783439b52c444cd6a760b9b3e3"), looks := true }, kinds := [], alts := [], laidByText := true, laidKinds := [.data, .widerDeep, .widerDeep, .pinned], laidTests := true, laidLooks := .later }
def ModtextShowsCardSaid : Prop := Claim7.holds Tryz.pinned (.plain (OpenSpec.ofChange modtextShowsSpec)) modtextShowsCard

/-- THE TIED CARD OF 'voussoirlaw34.ModtextBack'. -/
def modtextBackCard : Claim7 := { stood := { row := modtextBackRow, standIns := [], harness := (true, "009035be58323d578512b766fb199598c8094e783439b52c444cd6a760b9b3e3"), looks := true }, kinds := [], alts := [], laidByText := true, laidKinds := [.data, .widerDeep, .widerDeep, .pinned], laidTests := true, laidLooks := .later }
def ModtextBackCardSaid : Prop := Claim7.holds Tryz.pinned (.plain (OpenSpec.ofChange modtextBackSpec)) modtextBackCard

/-- THE TIED CARD OF 'voussoirlaw34.ModtextJoins'. -/
def modtextJoinsCard : Claim7 := { stood := { row := modtextJoinsRow, standIns := [], harness := (true, "009035be58323d578512b766fb199598c8094e783439b52c444cd6a760b9b3e3"), looks := true }, kinds := [], alts := [], laidByText := true, laidKinds := [.data, .widerDeep, .widerDeep, .pinned], laidTests := true, laidLooks := .later }
def ModtextJoinsCardSaid : Prop := Claim7.holds Tryz.pinned (.plain (OpenSpec.ofChange modtextJoinsSpec)) modtextJoinsCard

/-- THE SECOND FORM's CARD OF 'voussoirlaw34.ModtextReads'. -/
def modtextReadsUptoCard : Claim7 := { stood := { row := modtextReadsUptoRow, standIns := [], harness := (true, "009035be58323d578512b766fb199598c8094e783439b52c444cd6a760b9b3e3"), looks := true }, kinds := [], alts := [], laidByText := true, laidKinds := [.data, .widerDeep, .widerDeep, .pinned], laidTests := true, laidLooks := .later }
def ModtextReadsUptoCardSaid : Prop := Claim7.holds Tryz.pinned (.plain (OpenSpec.upto modtextReadsSpec)) modtextReadsUptoCard

/-- THE SECOND FORM's CARD OF 'voussoirlaw34.ModtextShows'. -/
def modtextShowsUptoCard : Claim7 := { stood := { row := modtextShowsUptoRow, standIns := [], harness := (true, "009035be58323d578512b766fb199598c8094e783439b52c444cd6a760b9b3e3"), looks := true }, kinds := [], alts := [], laidByText := true, laidKinds := [.data, .widerDeep, .widerDeep, .pinned], laidTests := true, laidLooks := .later }
def ModtextShowsUptoCardSaid : Prop := Claim7.holds Tryz.pinned (.plain (OpenSpec.upto modtextShowsSpec)) modtextShowsUptoCard

/-- THE SECOND FORM's CARD OF 'voussoirlaw34.ModtextBack'. -/
def modtextBackUptoCard : Claim7 := { stood := { row := modtextBackUptoRow, standIns := [], harness := (true, "009035be58323d578512b766fb199598c8094e783439b52c444cd6a760b9b3e3"), looks := true }, kinds := [], alts := [], laidByText := true, laidKinds := [.data, .widerDeep, .widerDeep, .pinned], laidTests := true, laidLooks := .later }
def ModtextBackUptoCardSaid : Prop := Claim7.holds Tryz.pinned (.plain (OpenSpec.upto modtextBackSpec)) modtextBackUptoCard

/-- THE SECOND FORM's CARD OF 'voussoirlaw34.ModtextJoins'. -/
def modtextJoinsUptoCard : Claim7 := { stood := { row := modtextJoinsUptoRow, standIns := [], harness := (true, "009035be58323d578512b766fb199598c8094e783439b52c444cd6a760b9b3e3"), looks := true }, kinds := [], alts := [], laidByText := true, laidKinds := [.data, .widerDeep, .widerDeep, .pinned], laidTests := true, laidLooks := .later }
def ModtextJoinsUptoCardSaid : Prop := Claim7.holds Tryz.pinned (.plain (OpenSpec.upto modtextJoinsSpec)) modtextJoinsUptoCard
end Rows
end Go.Proofs.YtkhoeoilamddaaaGreatDoor
