/-
  DERIVED. GIVEN WITH THE SEED: THE CARDS: each row of YtcjblbpkjegmiaaDoorRows.lean that lists a variable, with what it lists TIED to the program's text (the seventh form; the later family's looks); each row that meets fmt, with fmt's text TOLD by the authors' own Lean function (tested against real Go, not proved from fmt's source: count such statements apart). THE CARD IS WHAT COUNTS. Prove the row's statement (the work); the ties are given (YtcjblbpkjegmiaaDoorTie.lean); close each card by the builder's one call (the guide's Derived/Test/ToyasCard.lean, 'card_holds'). Laid BY PROGRAM, IN A SANDBOX (cutbox-door.mjs). By AI agents, Wed Nov 11 2026. No macro, syntax, notation, axiom, sorry.
-/
import Derived.Test.YtcjblbpkjegmiaaDoorRows
import GoSem.ClaimSeven
namespace Go.Proofs.YtcjblbpkjegmiaaDoor
namespace Rows

/-- THE TIED CARD OF 'voussoirlaw52.TreetextShows'. -/
def treetextShowsCard : Claim7 := { stood := { row := treetextShowsRow, standIns := [], harness := (true, "934279f58b27ff34c94664e3fef366c0647a49e3d1559f79018d34af4cebee71"), looks := true }, kinds := [], alts := [], laidByText := true, laidKinds := [.widerDeep], laidTests := true, laidLooks := .later }
def TreetextShowsCardSaid : Prop := Claim7.holds Tryd.pinned (.plain (OpenSpec.ofChange treetextShowsSpec)) treetextShowsCard

/-- THE TIED CARD OF 'voussoirlaw52.TreetextStates'. -/
def treetextStatesCard : Claim7 := { stood := { row := treetextStatesRow, standIns := [], harness := (true, "934279f58b27ff34c94664e3fef366c0647a49e3d1559f79018d34af4cebee71"), looks := true }, kinds := [], alts := [], laidByText := true, laidKinds := [.widerDeep], laidTests := true, laidLooks := .later }
def TreetextStatesCardSaid : Prop := Claim7.holds Tryd.pinned (.plain (OpenSpec.ofChange treetextStatesSpec)) treetextStatesCard

/-- THE TIED CARD OF 'voussoirlaw52.TreetextKids'. -/
def treetextKidsCard : Claim7 := { stood := { row := treetextKidsRow, standIns := [], harness := (true, "934279f58b27ff34c94664e3fef366c0647a49e3d1559f79018d34af4cebee71"), looks := true }, kinds := [], alts := [], laidByText := true, laidKinds := [.widerDeep], laidTests := true, laidLooks := .later }
def TreetextKidsCardSaid : Prop := Claim7.holds Tryd.pinned (.plain (OpenSpec.ofChange treetextKidsSpec)) treetextKidsCard

/-- THE TIED CARD OF 'voussoirlaw52.TreetextApart'. -/
def treetextApartCard : Claim7 := { stood := { row := treetextApartRow, standIns := [], harness := (true, "934279f58b27ff34c94664e3fef366c0647a49e3d1559f79018d34af4cebee71"), looks := true }, kinds := [], alts := [], laidByText := true, laidKinds := [.widerDeep], laidTests := true, laidLooks := .later }
def TreetextApartCardSaid : Prop := Claim7.holds Tryd.pinned (.plain (OpenSpec.ofChange treetextApartSpec)) treetextApartCard

/-- THE TIED CARD OF 'voussoirlaw31.TtextShows'. -/
def ttextShowsCard : Claim7 := { stood := { row := ttextShowsRow, standIns := [], harness := (true, "934279f58b27ff34c94664e3fef366c0647a49e3d1559f79018d34af4cebee71"), looks := true }, kinds := [], alts := [], laidByText := true, laidKinds := [.data, .widerDeep, .widerDeep, .pinned], laidTests := true, laidLooks := .later }
def TtextShowsCardSaid : Prop := Claim7.holds Tryd.pinned (.plain (OpenSpec.ofChange ttextShowsSpec)) ttextShowsCard

/-- THE TIED CARD OF 'voussoirlaw31.TtextBack'. -/
def ttextBackCard : Claim7 := { stood := { row := ttextBackRow, standIns := [], harness := (true, "934279f58b27ff34c94664e3fef366c0647a49e3d1559f79018d34af4cebee71"), looks := true }, kinds := [], alts := [], laidByText := true, laidKinds := [.data, .widerDeep, .widerDeep, .pinned], laidTests := true, laidLooks := .later }
def TtextBackCardSaid : Prop := Claim7.holds Tryd.pinned (.plain (OpenSpec.ofChange ttextBackSpec)) ttextBackCard

/-- THE SECOND FORM's CARD OF 'voussoirlaw52.TreetextShows'. -/
def treetextShowsUptoCard : Claim7 := { stood := { row := treetextShowsUptoRow, standIns := [], harness := (true, "934279f58b27ff34c94664e3fef366c0647a49e3d1559f79018d34af4cebee71"), looks := true }, kinds := [], alts := [], laidByText := true, laidKinds := [.widerDeep], laidTests := true, laidLooks := .later }
def TreetextShowsUptoCardSaid : Prop := Claim7.holds Tryd.pinned (.plain (OpenSpec.upto treetextShowsSpec)) treetextShowsUptoCard

/-- THE SECOND FORM's CARD OF 'voussoirlaw52.TreetextStates'. -/
def treetextStatesUptoCard : Claim7 := { stood := { row := treetextStatesUptoRow, standIns := [], harness := (true, "934279f58b27ff34c94664e3fef366c0647a49e3d1559f79018d34af4cebee71"), looks := true }, kinds := [], alts := [], laidByText := true, laidKinds := [.widerDeep], laidTests := true, laidLooks := .later }
def TreetextStatesUptoCardSaid : Prop := Claim7.holds Tryd.pinned (.plain (OpenSpec.upto treetextStatesSpec)) treetextStatesUptoCard

/-- THE SECOND FORM's CARD OF 'voussoirlaw52.TreetextKids'. -/
def treetextKidsUptoCard : Claim7 := { stood := { row := treetextKidsUptoRow, standIns := [], harness := (true, "934279f58b27ff34c94664e3fef366c0647a49e3d1559f79018d34af4cebee71"), looks := true }, kinds := [], alts := [], laidByText := true, laidKinds := [.widerDeep], laidTests := true, laidLooks := .later }
def TreetextKidsUptoCardSaid : Prop := Claim7.holds Tryd.pinned (.plain (OpenSpec.upto treetextKidsSpec)) treetextKidsUptoCard

/-- THE SECOND FORM's CARD OF 'voussoirlaw52.TreetextApart'. -/
def treetextApartUptoCard : Claim7 := { stood := { row := treetextApartUptoRow, standIns := [], harness := (true, "934279f58b27ff34c94664e3fef366c0647a49e3d1559f79018d34af4cebee71"), looks := true }, kinds := [], alts := [], laidByText := true, laidKinds := [.widerDeep], laidTests := true, laidLooks := .later }
def TreetextApartUptoCardSaid : Prop := Claim7.holds Tryd.pinned (.plain (OpenSpec.upto treetextApartSpec)) treetextApartUptoCard

/-- THE SECOND FORM's CARD OF 'voussoirlaw31.TtextShows'. -/
def ttextShowsUptoCard : Claim7 := { stood := { row := ttextShowsUptoRow, standIns := [], harness := (true, "934279f58b27ff34c94664e3fef366c0647a49e3d1559f79018d34af4cebee71"), looks := true }, kinds := [], alts := [], laidByText := true, laidKinds := [.data, .widerDeep, .widerDeep, .pinned], laidTests := true, laidLooks := .later }
def TtextShowsUptoCardSaid : Prop := Claim7.holds Tryd.pinned (.plain (OpenSpec.upto ttextShowsSpec)) ttextShowsUptoCard

/-- THE SECOND FORM's CARD OF 'voussoirlaw31.TtextBack'. -/
def ttextBackUptoCard : Claim7 := { stood := { row := ttextBackUptoRow, standIns := [], harness := (true, "934279f58b27ff34c94664e3fef366c0647a49e3d1559f79018d34af4cebee71"), looks := true }, kinds := [], alts := [], laidByText := true, laidKinds := [.data, .widerDeep, .widerDeep, .pinned], laidTests := true, laidLooks := .later }
def TtextBackUptoCardSaid : Prop := Claim7.holds Tryd.pinned (.plain (OpenSpec.upto ttextBackSpec)) ttextBackUptoCard
end Rows
end Go.Proofs.YtcjblbpkjegmiaaDoor
