/-
  DERIVED. GIVEN WITH THE SEED: THE CARDS: each row of YtnbphgeepnknlaaGreatDoorRows.lean that lists a variable, with what it lists TIED to the program's text (the seventh form; the later family's looks); each row that meets fmt, with fmt's text TOLD by the authors' own Lean function (tested against real Go, not proved from fmt's source: count such statements apart). THE CARD IS WHAT COUNTS. Prove the row's statement (the work); the ties are given (YtnbphgeepnknlaaGreatDoorTie.lean); close each card by the builder's one call (the guide's Derived/Test/ToyasCard.lean, 'card_holds'). Laid BY PROGRAM, IN A SANDBOX (cutbox-door.mjs). By AI agents, Wed Nov 11 2026. No macro, syntax, notation, axiom, sorry.
-/
import Derived.Test.YtnbphgeepnknlaaGreatDoorRows
import GoSem.ClaimSeven
namespace Go.Proofs.YtnbphgeepnknlaaGreatDoor
namespace Rows

/-- THE TIED CARD OF 'voussoirlaw31.TtextReads'. -/
def ttextReadsCard : Claim7 := { stood := { row := ttextReadsRow, standIns := [], harness := (true, "5b84fbc055789e7bdac19be2fd60a8c448cf018353786ebda604ace6693df0cb"), looks := true }, kinds := [], alts := [], laidByText := true, laidKinds := [.data, .widerDeep, .widerDeep, .pinned], laidTests := true, laidLooks := .later }
def TtextReadsCardSaid : Prop := Claim7.holds Tryz.pinned (.plain (OpenSpec.ofChange ttextReadsSpec)) ttextReadsCard

/-- THE TIED CARD OF 'voussoirlaw33.FtextParses'. -/
def ftextParsesCard : Claim7 := { stood := { row := ftextParsesRow, standIns := [], harness := (true, "5b84fbc055789e7bdac19be2fd60a8c448cf018353786ebda604ace6693df0cb"), looks := true }, kinds := [], alts := [], laidByText := true, laidKinds := [.data, .widerDeep, .widerDeep, .pinned], laidTests := true, laidLooks := .later }
def FtextParsesCardSaid : Prop := Claim7.holds Tryz.pinned (.plain (OpenSpec.ofChange ftextParsesSpec)) ftextParsesCard

/-- THE TIED CARD OF 'voussoirlaw33.FtextShows'. -/
def ftextShowsCard : Claim7 := { stood := { row := ftextShowsRow, standIns := [], harness := (true, "5b84fbc055789e7bdac19be2fd60a8c448cf018353786ebda604ace6693df0cb"), looks := true }, kinds := [], alts := [], laidByText := true, laidKinds := [.data, .widerDeep, .widerDeep, .pinned], laidTests := true, laidLooks := .later }
def FtextShowsCardSaid : Prop := Claim7.holds Tryz.pinned (.plain (OpenSpec.ofChange ftextShowsSpec)) ftextShowsCard

/-- THE TIED CARD OF 'voussoirlaw33.FtextAgain'. -/
def ftextAgainCard : Claim7 := { stood := { row := ftextAgainRow, standIns := [], harness := (true, "5b84fbc055789e7bdac19be2fd60a8c448cf018353786ebda604ace6693df0cb"), looks := true }, kinds := [], alts := [], laidByText := true, laidKinds := [.data, .widerDeep, .widerDeep, .pinned], laidTests := true, laidLooks := .later }
def FtextAgainCardSaid : Prop := Claim7.holds Tryz.pinned (.plain (OpenSpec.ofChange ftextAgainSpec)) ftextAgainCard

/-- THE TIED CARD OF 'voussoirlaw33.FtextDeep'. -/
def ftextDeepCard : Claim7 := { stood := { row := ftextDeepRow, standIns := [], harness := (true, "5b84fbc055789e7bdac19be2fd60a8c448cf018353786ebda604ace6693df0cb"), looks := true }, kinds := [], alts := [], laidByText := true, laidKinds := [.data, .widerDeep, .widerDeep, .pinned], laidTests := true, laidLooks := .later }
def FtextDeepCardSaid : Prop := Claim7.holds Tryz.pinned (.plain (OpenSpec.ofChange ftextDeepSpec)) ftextDeepCard

/-- THE TIED CARD OF 'voussoirlaw34.ModtextReads'. -/
def modtextReadsCard : Claim7 := { stood := { row := modtextReadsRow, standIns := [], harness := (true, "5b84fbc055789e7bdac19be2fd60a8c448cf018353786ebda604ace6693df0cb"), looks := true }, kinds := [], alts := [], laidByText := true, laidKinds := [.data, .widerDeep, .widerDeep, .pinned], laidTests := true, laidLooks := .later }
def ModtextReadsCardSaid : Prop := Claim7.holds Tryz.pinned (.plain (OpenSpec.ofChange modtextReadsSpec)) modtextReadsCard

/-- THE TIED CARD OF 'voussoirlaw34.ModtextShows'. -/
def modtextShowsCard : Claim7 := { stood := { row := modtextShowsRow, standIns := [], harness := (true, "5b84fbc055789e7bdac19be2fd60a8c448cf018353786ebda604ace6693df0cb"), looks := true }, kinds := [], alts := [], laidByText := true, laidKinds := [.data, .widerDeep, .widerDeep, .pinned], laidTests := true, laidLooks := .later }
def ModtextShowsCardSaid : Prop := Claim7.holds Tryz.pinned (.plain (OpenSpec.ofChange modtextShowsSpec)) modtextShowsCard

/-- THE TIED CARD OF 'voussoirlaw34.ModtextBack'. -/
def modtextBackCard : Claim7 := { stood := { row := modtextBackRow, standIns := [], harness := (true, "5b84fbc055789e7bdac19be2fd60a8c448cf018353786ebda604ace6693df0cb"), looks := true }, kinds := [], alts := [], laidByText := true, laidKinds := [.data, .widerDeep, .widerDeep, .pinned], laidTests := true, laidLooks := .later }
def ModtextBackCardSaid : Prop := Claim7.holds Tryz.pinned (.plain (OpenSpec.ofChange modtextBackSpec)) modtextBackCard

/-- THE TIED CARD OF 'voussoirlaw34.ModtextJoins'. -/
def modtextJoinsCard : Claim7 := { stood := { row := modtextJoinsRow, standIns := [], harness := (true, "5b84fbc055789e7bdac19be2fd60a8c448cf018353786ebda604ace6693df0cb"), looks := true }, kinds := [], alts := [], laidByText := true, laidKinds := [.data, .widerDeep, .widerDeep, .pinned], laidTests := true, laidLooks := .later }
def ModtextJoinsCardSaid : Prop := Claim7.holds Tryz.pinned (.plain (OpenSpec.ofChange modtextJoinsSpec)) modtextJoinsCard

/-- THE SECOND FORM's CARD OF 'voussoirlaw31.TtextReads'. -/
def ttextReadsUptoCard : Claim7 := { stood := { row := ttextReadsUptoRow, standIns := [], harness := (true, "5b84fbc055789e7bdac19be2fd60a8c448cf018353786ebda604ace6693df0cb"), looks := true }, kinds := [], alts := [], laidByText := true, laidKinds := [.data, .widerDeep, .widerDeep, .pinned], laidTests := true, laidLooks := .later }
def TtextReadsUptoCardSaid : Prop := Claim7.holds Tryz.pinned (.plain (OpenSpec.upto ttextReadsSpec)) ttextReadsUptoCard

/-- THE SECOND FORM's CARD OF 'voussoirlaw33.FtextParses'. -/
def ftextParsesUptoCard : Claim7 := { stood := { row := ftextParsesUptoRow, standIns := [], harness := (true, "5b84fbc055789e7bdac19be2fd60a8c448cf018353786ebda604ace6693df0cb"), looks := true }, kinds := [], alts := [], laidByText := true, laidKinds := [.data, .widerDeep, .widerDeep, .pinned], laidTests := true, laidLooks := .later }
def FtextParsesUptoCardSaid : Prop := Claim7.holds Tryz.pinned (.plain (OpenSpec.upto ftextParsesSpec)) ftextParsesUptoCard

/-- THE SECOND FORM's CARD OF 'voussoirlaw33.FtextShows'. -/
def ftextShowsUptoCard : Claim7 := { stood := { row := ftextShowsUptoRow, standIns := [], harness := (true, "5b84fbc055789e7bdac19be2fd60a8c448cf018353786ebda604ace6693df0cb"), looks := true }, kinds := [], alts := [], laidByText := true, laidKinds := [.data, .widerDeep, .widerDeep, .pinned], laidTests := true, laidLooks := .later }
def FtextShowsUptoCardSaid : Prop := Claim7.holds Tryz.pinned (.plain (OpenSpec.upto ftextShowsSpec)) ftextShowsUptoCard

/-- THE SECOND FORM's CARD OF 'voussoirlaw33.FtextAgain'. -/
def ftextAgainUptoCard : Claim7 := { stood := { row := ftextAgainUptoRow, standIns := [], harness := (true, "5b84fbc055789e7bdac19be2fd60a8c448cf018353786ebda604ace6693df0cb"), looks := true }, kinds := [], alts := [], laidByText := true, laidKinds := [.data, .widerDeep, .widerDeep, .pinned], laidTests := true, laidLooks := .later }
def FtextAgainUptoCardSaid : Prop := Claim7.holds Tryz.pinned (.plain (OpenSpec.upto ftextAgainSpec)) ftextAgainUptoCard

/-- THE SECOND FORM's CARD OF 'voussoirlaw33.FtextDeep'. -/
def ftextDeepUptoCard : Claim7 := { stood := { row := ftextDeepUptoRow, standIns := [], harness := (true, "5b84fbc055789e7bdac19be2fd60a8c448cf018353786ebda604ace6693df0cb"), looks := true }, kinds := [], alts := [], laidByText := true, laidKinds := [.data, .widerDeep, .widerDeep, .pinned], laidTests := true, laidLooks := .later }
def FtextDeepUptoCardSaid : Prop := Claim7.holds Tryz.pinned (.plain (OpenSpec.upto ftextDeepSpec)) ftextDeepUptoCard

/-- THE SECOND FORM's CARD OF 'voussoirlaw34.ModtextReads'. -/
def modtextReadsUptoCard : Claim7 := { stood := { row := modtextReadsUptoRow, standIns := [], harness := (true, "5b84fbc055789e7bdac19be2fd60a8c448cf018353786ebda604ace6693df0cb"), looks := true }, kinds := [], alts := [], laidByText := true, laidKinds := [.data, .widerDeep, .widerDeep, .pinned], laidTests := true, laidLooks := .later }
def ModtextReadsUptoCardSaid : Prop := Claim7.holds Tryz.pinned (.plain (OpenSpec.upto modtextReadsSpec)) modtextReadsUptoCard

/-- THE SECOND FORM's CARD OF 'voussoirlaw34.ModtextShows'. -/
def modtextShowsUptoCard : Claim7 := { stood := { row := modtextShowsUptoRow, standIns := [], harness := (true, "5b84fbc055789e7bdac19be2fd60a8c448cf018353786ebda604ace6693df0cb"), looks := true }, kinds := [], alts := [], laidByText := true, laidKinds := [.data, .widerDeep, .widerDeep, .pinned], laidTests := true, laidLooks := .later }
def ModtextShowsUptoCardSaid : Prop := Claim7.holds Tryz.pinned (.plain (OpenSpec.upto modtextShowsSpec)) modtextShowsUptoCard

/-- THE SECOND FORM's CARD OF 'voussoirlaw34.ModtextBack'. -/
def modtextBackUptoCard : Claim7 := { stood := { row := modtextBackUptoRow, standIns := [], harness := (true, "5b84fbc055789e7bdac19be2fd60a8c448cf018353786ebda604ace6693df0cb"), looks := true }, kinds := [], alts := [], laidByText := true, laidKinds := [.data, .widerDeep, .widerDeep, .pinned], laidTests := true, laidLooks := .later }
def ModtextBackUptoCardSaid : Prop := Claim7.holds Tryz.pinned (.plain (OpenSpec.upto modtextBackSpec)) modtextBackUptoCard

/-- THE SECOND FORM's CARD OF 'voussoirlaw34.ModtextJoins'. -/
def modtextJoinsUptoCard : Claim7 := { stood := { row := modtextJoinsUptoRow, standIns := [], harness := (true, "5b84fbc055789e7bdac19be2fd60a8c448cf018353786ebda604ace6693df0cb"), looks := true }, kinds := [], alts := [], laidByText := true, laidKinds := [.data, .widerDeep, .widerDeep, .pinned], laidTests := true, laidLooks := .later }
def ModtextJoinsUptoCardSaid : Prop := Claim7.holds Tryz.pinned (.plain (OpenSpec.upto modtextJoinsSpec)) modtextJoinsUptoCard
end Rows
end Go.Proofs.YtnbphgeepnknlaaGreatDoor
