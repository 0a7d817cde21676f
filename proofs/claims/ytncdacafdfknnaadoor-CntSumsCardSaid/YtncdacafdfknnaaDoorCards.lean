/-
  DERIVED. GIVEN WITH THE SEED: THE CARDS: each row of YtncdacafdfknnaaDoorRows.lean that lists a variable, with what it lists TIED to the program's text (the seventh form; the later family's looks); each row that meets fmt, with fmt's text TOLD by the authors' own Lean function (tested against real Go, not proved from fmt's source: count such statements apart). THE CARD IS WHAT COUNTS. Prove the row's statement (the work); the ties are given (YtncdacafdfknnaaDoorTie.lean); close each card by the builder's one call (the guide's Derived/Test/ToyasCard.lean, 'card_holds'). Laid BY PROGRAM, IN A SANDBOX (cutbox-door.mjs). By AI agents, Wed Nov 11 2026. No macro, syntax, notation, axiom, sorry.
-/
import Derived.Test.YtncdacafdfknnaaDoorRows
import GoSem.ClaimSeven
namespace Go.Proofs.YtncdacafdfknnaaDoor
namespace Rows

/-- THE TIED CARD OF 'voussoirlaw04.CntTexts'. -/
def cntTextsCard : Claim7 := { stood := { row := cntTextsRow, standIns := [], harness := (true, "dc6a2fcc15d22f1fc03913b57803b74eb59988df453466215f7e0e58824d92af"), looks := false }, kinds := [], alts := [], laidByText := true, laidKinds := [.data, .pinned], laidTests := true, laidLooks := .later }
def CntTextsCardSaid : Prop := Claim7.holds Tryd.pinned (.plain (OpenSpec.ofChange cntTextsSpec)) cntTextsCard

/-- THE TIED CARD OF 'voussoirlaw04.CntTimes'. -/
def cntTimesCard : Claim7 := { stood := { row := cntTimesRow, standIns := [], harness := (true, "dc6a2fcc15d22f1fc03913b57803b74eb59988df453466215f7e0e58824d92af"), looks := false }, kinds := [], alts := [], laidByText := true, laidKinds := [.data, .pinned], laidTests := true, laidLooks := .later }
def CntTimesCardSaid : Prop := Claim7.holds Tryd.pinned (.plain (OpenSpec.ofChange cntTimesSpec)) cntTimesCard

/-- THE TIED CARD OF 'voussoirlaw04.CntSums'. -/
def cntSumsCard : Claim7 := { stood := { row := cntSumsRow, standIns := [], harness := (true, "dc6a2fcc15d22f1fc03913b57803b74eb59988df453466215f7e0e58824d92af"), looks := false }, kinds := [], alts := [], laidByText := true, laidKinds := [.data, .pinned], laidTests := true, laidLooks := .later }
def CntSumsCardSaid : Prop := Claim7.holds Tryd.pinned (.plain (OpenSpec.ofChange cntSumsSpec)) cntSumsCard

/-- THE TIED CARD OF 'voussoirlaw04.CntRings'. -/
def cntRingsCard : Claim7 := { stood := { row := cntRingsRow, standIns := [], harness := (true, "dc6a2fcc15d22f1fc03913b57803b74eb59988df453466215f7e0e58824d92af"), looks := false }, kinds := [], alts := [], laidByText := true, laidKinds := [.data, .pinned], laidTests := true, laidLooks := .later }
def CntRingsCardSaid : Prop := Claim7.holds Tryd.pinned (.plain (OpenSpec.ofChange cntRingsSpec)) cntRingsCard

/-- THE SECOND FORM's CARD OF 'voussoirlaw04.CntTexts'. -/
def cntTextsUptoCard : Claim7 := { stood := { row := cntTextsUptoRow, standIns := [], harness := (true, "dc6a2fcc15d22f1fc03913b57803b74eb59988df453466215f7e0e58824d92af"), looks := false }, kinds := [], alts := [], laidByText := true, laidKinds := [.data, .pinned], laidTests := true, laidLooks := .later }
def CntTextsUptoCardSaid : Prop := Claim7.holds Tryd.pinned (.plain (OpenSpec.upto cntTextsSpec)) cntTextsUptoCard

/-- THE SECOND FORM's CARD OF 'voussoirlaw04.CntTimes'. -/
def cntTimesUptoCard : Claim7 := { stood := { row := cntTimesUptoRow, standIns := [], harness := (true, "dc6a2fcc15d22f1fc03913b57803b74eb59988df453466215f7e0e58824d92af"), looks := false }, kinds := [], alts := [], laidByText := true, laidKinds := [.data, .pinned], laidTests := true, laidLooks := .later }
def CntTimesUptoCardSaid : Prop := Claim7.holds Tryd.pinned (.plain (OpenSpec.upto cntTimesSpec)) cntTimesUptoCard

/-- THE SECOND FORM's CARD OF 'voussoirlaw04.CntSums'. -/
def cntSumsUptoCard : Claim7 := { stood := { row := cntSumsUptoRow, standIns := [], harness := (true, "dc6a2fcc15d22f1fc03913b57803b74eb59988df453466215f7e0e58824d92af"), looks := false }, kinds := [], alts := [], laidByText := true, laidKinds := [.data, .pinned], laidTests := true, laidLooks := .later }
def CntSumsUptoCardSaid : Prop := Claim7.holds Tryd.pinned (.plain (OpenSpec.upto cntSumsSpec)) cntSumsUptoCard

/-- THE SECOND FORM's CARD OF 'voussoirlaw04.CntRings'. -/
def cntRingsUptoCard : Claim7 := { stood := { row := cntRingsUptoRow, standIns := [], harness := (true, "dc6a2fcc15d22f1fc03913b57803b74eb59988df453466215f7e0e58824d92af"), looks := false }, kinds := [], alts := [], laidByText := true, laidKinds := [.data, .pinned], laidTests := true, laidLooks := .later }
def CntRingsUptoCardSaid : Prop := Claim7.holds Tryd.pinned (.plain (OpenSpec.upto cntRingsSpec)) cntRingsUptoCard
end Rows
end Go.Proofs.YtncdacafdfknnaaDoor
