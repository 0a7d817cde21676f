/-
  DERIVED. GIVEN WITH THE SEED: THE CARDS: each row of YtnbphgeepnknlaaDoorRows.lean that lists a variable, with what it lists TIED to the program's text (the seventh form; the later family's looks); each row that meets fmt, with fmt's text TOLD by the authors' own Lean function (tested against real Go, not proved from fmt's source: count such statements apart). THE CARD IS WHAT COUNTS. Prove the row's statement (the work); the ties are given (YtnbphgeepnknlaaDoorTie.lean); close each card by the builder's one call (the guide's Derived/Test/ToyasCard.lean, 'card_holds'). Laid BY PROGRAM, IN A SANDBOX (cutbox-door.mjs). By AI agents, Wed Nov 11 2026. No macro, syntax, notation, axiom, sorry.
-/
import Derived.Test.YtnbphgeepnknlaaDoorRows
import GoSem.ClaimSeven
namespace Go.Proofs.YtnbphgeepnknlaaDoor
namespace Rows

/-- THE TIED CARD OF 'voussoirlaw31.TtextShows'. -/
def ttextShowsCard : Claim7 := { stood := { row := ttextShowsRow, standIns := [], harness := (true, "5c03ba27737045f17b20cdc9b01efaeb6a407ae5fa6940537fe6dd317184be80"), looks := true }, kinds := [], alts := [], laidByText := true, laidKinds := [.data, .widerDeep, .widerDeep, .pinned], laidTests := true, laidLooks := .later }
def TtextShowsCardSaid : Prop := Claim7.holds Tryd.pinned (.plain (OpenSpec.ofChange ttextShowsSpec)) ttextShowsCard

/-- THE TIED CARD OF 'voussoirlaw31.TtextBack'. -/
def ttextBackCard : Claim7 := { stood := { row := ttextBackRow, standIns := [], harness := (true, "5c03ba27737045f17b20cdc9b01efaeb6a407ae5fa6940537fe6dd317184be80"), looks := true }, kinds := [], alts := [], laidByText := true, laidKinds := [.data, .widerDeep, .widerDeep, .pinned], laidTests := true, laidLooks := .later }
def TtextBackCardSaid : Prop := Claim7.holds Tryd.pinned (.plain (OpenSpec.ofChange ttextBackSpec)) ttextBackCard

/-- THE SECOND FORM's CARD OF 'voussoirlaw31.TtextShows'. -/
def ttextShowsUptoCard : Claim7 := { stood := { row := ttextShowsUptoRow, standIns := [], harness := (true, "5c03ba27737045f17b20cdc9b01efaeb6a407ae5fa6940537fe6dd317184be80"), looks := true }, kinds := [], alts := [], laidByText := true, laidKinds := [.data, .widerDeep, .widerDeep, .pinned], laidTests := true, laidLooks := .later }
def TtextShowsUptoCardSaid : Prop := Claim7.holds Tryd.pinned (.plain (OpenSpec.upto ttextShowsSpec)) ttextShowsUptoCard

/-- THE SECOND FORM's CARD OF 'voussoirlaw31.TtextBack'. -/
def ttextBackUptoCard : Claim7 := { stood := { row := ttextBackUptoRow, standIns := [], harness := (true, "5c03ba27737045f17b20cdc9b01efaeb6a407ae5fa6940537fe6dd317184be80"), looks := true }, kinds := [], alts := [], laidByText := true, laidKinds := [.data, .widerDeep, .widerDeep, .pinned], laidTests := true, laidLooks := .later }
def TtextBackUptoCardSaid : Prop := Claim7.holds Tryd.pinned (.plain (OpenSpec.upto ttextBackSpec)) ttextBackUptoCard
end Rows
end Go.Proofs.YtnbphgeepnknlaaDoor
