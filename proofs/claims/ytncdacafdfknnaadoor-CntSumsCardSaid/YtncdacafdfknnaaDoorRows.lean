/-
  NARROWER THAN 'FOR EVERY INPUT', by the rows' own cells (each row's printed sentence says how): CntTexts: laid · CntTimes: laid · CntSums: laid · CntRings: laid.
  DERIVED. THE GIVEN ROWS OF THIS SEAT. 4 by the template 'for every input the law returns true; each argument reads behind the call as it read before'; 0 by the template 'total and deterministic' (their statements: YtncdacafdfknnaaDoorTotals.lean).
  GIVEN WITH THE SEED: the statements are not yours to turn. If you find one false, say at which input.
  Laid BY PROGRAM, IN A SANDBOX (cutbox-rows.mjs): the forced cells as the released guide's own fill.sh prints them over the translation 0e62fdfe329996ca… (all of the seat's roots in one cut). By AI agents, Wed Nov 11 2026. No macro, syntax, notation, axiom, sorry.
-/
import Derived.Test.YtncdacafdfknnaaDoorChecked
import GoSem.PinnedTables
import GoSem.Claim
import GoSem.ClaimJoined
import GoSem.ClaimMapViews
import Derived.JoinedTies
import Derived.KernelRfl
namespace Go.Proofs.YtncdacafdfknnaaDoor
/- THE CELL 'sum', in the pinned program and in every row, IS THE sha256 OF THE DUMP (.gsa) THAT YtncdacafdfknnaaDoorProg.lean LOADS. Nothing in Lean hashes anything: it is a label: what it is worth is what the hold of that sum in a sandbox is worth. -/
noncomputable def Tryd.pinned : Pinned := { name := "ytncdacafdfknnaadoor", sum := "0e62fdfe329996ca5ac40c7be190e061e198254ba470cb2600d6e81d0b6d5803", checked := Tryd.checked }
namespace Rows
def none {H : Type} : Left H := { results := [], args := [] }

/- WHAT THE LISTED PACKAGE-LEVEL VARIABLES READ AS WHEN THE CALL BEGINS. Each datum BY PROGRAM (the guide's laid-datum.mjs) off the statement by which the dump's own 'gosem.cut.vars' lays the variable. In a bare row this is a premise. The card (YtncdacafdfknnaaDoorCards.lean) ties it to the program's text. -/
def laid_unicode_utf8_acceptRanges {H : Type} : DataW H := .agg [.agg [.lit (.int .u8 128), .lit (.int .u8 191)], .agg [.lit (.int .u8 160), .lit (.int .u8 191)], .agg [.lit (.int .u8 128), .lit (.int .u8 159)], .agg [.lit (.int .u8 144), .lit (.int .u8 191)], .agg [.lit (.int .u8 128), .lit (.int .u8 143)], .agg [.lit (.int .u8 0), .lit (.int .u8 0)], .agg [.lit (.int .u8 0), .lit (.int .u8 0)], .agg [.lit (.int .u8 0), .lit (.int .u8 0)], .agg [.lit (.int .u8 0), .lit (.int .u8 0)], .agg [.lit (.int .u8 0), .lit (.int .u8 0)], .agg [.lit (.int .u8 0), .lit (.int .u8 0)], .agg [.lit (.int .u8 0), .lit (.int .u8 0)], .agg [.lit (.int .u8 0), .lit (.int .u8 0)], .agg [.lit (.int .u8 0), .lit (.int .u8 0)], .agg [.lit (.int .u8 0), .lit (.int .u8 0)], .agg [.lit (.int .u8 0), .lit (.int .u8 0)]]
/-- One of Go's own tables, pinned by name: the form's constant. -/
def laid_unicode_utf8_first : DataW Unit := Go.Pinned.utf8First

/-- 'voussoirlaw04.CntTexts': WHATEVER THE INPUT: true; the input reads as it did. -/
def cntTextsSpec : ChangeSpec := { name := "cntTexts", fn := fun _ => fun
  | [d1, d2, d3] => { results := [.lit (.bool true)], args := [d1, d2, d3] }
  | _ => none }
def cntTextsRow : OpenClaim := { program := "ytncdacafdfknnaadoor", sum := "0e62fdfe329996ca5ac40c7be190e061e198254ba470cb2600d6e81d0b6d5803", func := "voussoir/voussoirlaw04.CntTexts", spec := "cntTexts", inPlace := ["internal/bytealg.IndexByteString", "internal/bytealg.IndexString"], named := ["unicode/utf8.first", "unicode/utf8.acceptRanges", "internal/bytealg.MaxLen"], apart := false, laid := [("unicode/utf8.acceptRanges", laid_unicode_utf8_acceptRanges), ("unicode/utf8.first", laid_unicode_utf8_first)] }
def CntTextsSaid : Prop := cntTextsRow.holds Tryd.pinned (OpenSpec.ofChange cntTextsSpec)

/-- ITS FALSE NEIGHBOUR: 'it returns false'. Refute it at one input. -/
def cntTextsWrong : ChangeSpec := { name := "cntTexts", fn := fun _ => fun
  | [d1, d2, d3] => { results := [.lit (.bool false)], args := [d1, d2, d3] }
  | _ => none }
def CntTextsWrongFalsely : Prop := cntTextsRow.holds Tryd.pinned (OpenSpec.ofChange cntTextsWrong)

/-- 'voussoirlaw04.CntTimes': WHATEVER THE INPUT: true; the input reads as it did. -/
def cntTimesSpec : ChangeSpec := { name := "cntTimes", fn := fun _ => fun
  | [d1, d2, d3] => { results := [.lit (.bool true)], args := [d1, d2, d3] }
  | _ => none }
def cntTimesRow : OpenClaim := { program := "ytncdacafdfknnaadoor", sum := "0e62fdfe329996ca5ac40c7be190e061e198254ba470cb2600d6e81d0b6d5803", func := "voussoir/voussoirlaw04.CntTimes", spec := "cntTimes", inPlace := ["internal/bytealg.IndexByteString", "internal/bytealg.IndexString"], named := ["unicode/utf8.first", "unicode/utf8.acceptRanges", "internal/bytealg.MaxLen"], apart := false, laid := [("unicode/utf8.acceptRanges", laid_unicode_utf8_acceptRanges), ("unicode/utf8.first", laid_unicode_utf8_first)] }
def CntTimesSaid : Prop := cntTimesRow.holds Tryd.pinned (OpenSpec.ofChange cntTimesSpec)

/-- ITS FALSE NEIGHBOUR: 'it returns false'. Refute it at one input. -/
def cntTimesWrong : ChangeSpec := { name := "cntTimes", fn := fun _ => fun
  | [d1, d2, d3] => { results := [.lit (.bool false)], args := [d1, d2, d3] }
  | _ => none }
def CntTimesWrongFalsely : Prop := cntTimesRow.holds Tryd.pinned (OpenSpec.ofChange cntTimesWrong)

/-- 'voussoirlaw04.CntSums': WHATEVER THE INPUT: true; the input reads as it did. -/
def cntSumsSpec : ChangeSpec := { name := "cntSums", fn := fun _ => fun
  | [d1, d2, d3] => { results := [.lit (.bool true)], args := [d1, d2, d3] }
  | _ => none }
def cntSumsRow : OpenClaim := { program := "ytncdacafdfknnaadoor", sum := "0e62fdfe329996ca5ac40c7be190e061e198254ba470cb2600d6e81d0b6d5803", func := "voussoir/voussoirlaw04.CntSums", spec := "cntSums", inPlace := ["internal/bytealg.IndexByteString", "internal/bytealg.IndexString"], named := ["unicode/utf8.first", "unicode/utf8.acceptRanges", "internal/bytealg.MaxLen"], apart := false, laid := [("unicode/utf8.acceptRanges", laid_unicode_utf8_acceptRanges), ("unicode/utf8.first", laid_unicode_utf8_first)] }
def CntSumsSaid : Prop := cntSumsRow.holds Tryd.pinned (OpenSpec.ofChange cntSumsSpec)

/-- ITS FALSE NEIGHBOUR: 'it returns false'. Refute it at one input. -/
def cntSumsWrong : ChangeSpec := { name := "cntSums", fn := fun _ => fun
  | [d1, d2, d3] => { results := [.lit (.bool false)], args := [d1, d2, d3] }
  | _ => none }
def CntSumsWrongFalsely : Prop := cntSumsRow.holds Tryd.pinned (OpenSpec.ofChange cntSumsWrong)

/-- 'voussoirlaw04.CntRings': WHATEVER THE INPUT: true; the input reads as it did. -/
def cntRingsSpec : ChangeSpec := { name := "cntRings", fn := fun _ => fun
  | [d1, d2, d3] => { results := [.lit (.bool true)], args := [d1, d2, d3] }
  | _ => none }
def cntRingsRow : OpenClaim := { program := "ytncdacafdfknnaadoor", sum := "0e62fdfe329996ca5ac40c7be190e061e198254ba470cb2600d6e81d0b6d5803", func := "voussoir/voussoirlaw04.CntRings", spec := "cntRings", inPlace := ["internal/bytealg.IndexByteString", "internal/bytealg.IndexString"], named := ["unicode/utf8.first", "unicode/utf8.acceptRanges", "internal/bytealg.MaxLen"], apart := false, laid := [("unicode/utf8.acceptRanges", laid_unicode_utf8_acceptRanges), ("unicode/utf8.first", laid_unicode_utf8_first)] }
def CntRingsSaid : Prop := cntRingsRow.holds Tryd.pinned (OpenSpec.ofChange cntRingsSpec)

/-- ITS FALSE NEIGHBOUR: 'it returns false'. Refute it at one input. -/
def cntRingsWrong : ChangeSpec := { name := "cntRings", fn := fun _ => fun
  | [d1, d2, d3] => { results := [.lit (.bool false)], args := [d1, d2, d3] }
  | _ => none }
def CntRingsWrongFalsely : Prop := cntRingsRow.holds Tryd.pinned (OpenSpec.ofChange cntRingsWrong)

/- THE SECOND FORM. 'bulk': how many values and letters a reading holds, each counted each time it is reached (what is shared counts as often as it is met; a slice's spare places count too). A statement '..UptoSaid' is the law's where the arguments, and the package variables that the reading takes, are together of bulk at most 1048576: NARROWER than '..Said'. Prove '..Said' where nothing that the law and all that it calls make is longer than what came in: it says more and counts as full. Else prove '..UptoSaid'. A law counts once. -/
mutual
def uptoBulk {H : Type} : DataW H → Nat
  | .lit (.string bytes) => bytes.length + 1
  | .lit _ => 1
  | .nil => 1
  | .ptr d => uptoBulk d + 1
  | .slice elems spare => uptoBulkAll elems + uptoBulkAll spare + 1
  | .agg parts => uptoBulkAll parts + 1
  | .iface _ d => uptoBulk d + 1
  | .map entries => uptoBulkEntries entries + 1
  | .held _ => 1
def uptoBulkAll {H : Type} : List (DataW H) → Nat
  | [] => 0
  | d :: r => uptoBulk d + uptoBulkAll r
def uptoBulkEntries {H : Type} : List (Lit × DataW H) → Nat
  | [] => 0
  | x :: r => uptoBulkEntry x + uptoBulkEntries r
def uptoBulkEntry {H : Type} : Lit × DataW H → Nat
  | (.string bytes, d) => bytes.length + uptoBulk d + 1
  | (_, d) => uptoBulk d + 1
 end
def uptoSmall : (H : Type) → List (DataW H) → Bool := fun _ ds => decide (uptoBulkAll ds ≤ 1048576)
def OpenSpec.upto (s : _root_.Go.ChangeSpec) : _root_.Go.OpenSpec := { _root_.Go.OpenSpec.ofChange s with cond := some uptoSmall }

/-- 'voussoirlaw04.CntTexts', WHERE WHAT IT READS IS OF BULK AT MOST 1048576: true; the input reads as it did. -/
def cntTextsUptoRow : OpenClaim := { program := "ytncdacafdfknnaadoor", sum := "0e62fdfe329996ca5ac40c7be190e061e198254ba470cb2600d6e81d0b6d5803", func := "voussoir/voussoirlaw04.CntTexts", spec := "cntTexts", inPlace := ["internal/bytealg.IndexByteString", "internal/bytealg.IndexString"], named := ["unicode/utf8.first", "unicode/utf8.acceptRanges", "internal/bytealg.MaxLen"], apart := false, laid := [("unicode/utf8.acceptRanges", laid_unicode_utf8_acceptRanges), ("unicode/utf8.first", laid_unicode_utf8_first)], narrowed := true }
def CntTextsUptoSaid : Prop := cntTextsUptoRow.holds Tryd.pinned (OpenSpec.upto cntTextsSpec)

/-- 'voussoirlaw04.CntTimes', WHERE WHAT IT READS IS OF BULK AT MOST 1048576: true; the input reads as it did. -/
def cntTimesUptoRow : OpenClaim := { program := "ytncdacafdfknnaadoor", sum := "0e62fdfe329996ca5ac40c7be190e061e198254ba470cb2600d6e81d0b6d5803", func := "voussoir/voussoirlaw04.CntTimes", spec := "cntTimes", inPlace := ["internal/bytealg.IndexByteString", "internal/bytealg.IndexString"], named := ["unicode/utf8.first", "unicode/utf8.acceptRanges", "internal/bytealg.MaxLen"], apart := false, laid := [("unicode/utf8.acceptRanges", laid_unicode_utf8_acceptRanges), ("unicode/utf8.first", laid_unicode_utf8_first)], narrowed := true }
def CntTimesUptoSaid : Prop := cntTimesUptoRow.holds Tryd.pinned (OpenSpec.upto cntTimesSpec)

/-- 'voussoirlaw04.CntSums', WHERE WHAT IT READS IS OF BULK AT MOST 1048576: true; the input reads as it did. -/
def cntSumsUptoRow : OpenClaim := { program := "ytncdacafdfknnaadoor", sum := "0e62fdfe329996ca5ac40c7be190e061e198254ba470cb2600d6e81d0b6d5803", func := "voussoir/voussoirlaw04.CntSums", spec := "cntSums", inPlace := ["internal/bytealg.IndexByteString", "internal/bytealg.IndexString"], named := ["unicode/utf8.first", "unicode/utf8.acceptRanges", "internal/bytealg.MaxLen"], apart := false, laid := [("unicode/utf8.acceptRanges", laid_unicode_utf8_acceptRanges), ("unicode/utf8.first", laid_unicode_utf8_first)], narrowed := true }
def CntSumsUptoSaid : Prop := cntSumsUptoRow.holds Tryd.pinned (OpenSpec.upto cntSumsSpec)

/-- 'voussoirlaw04.CntRings', WHERE WHAT IT READS IS OF BULK AT MOST 1048576: true; the input reads as it did. -/
def cntRingsUptoRow : OpenClaim := { program := "ytncdacafdfknnaadoor", sum := "0e62fdfe329996ca5ac40c7be190e061e198254ba470cb2600d6e81d0b6d5803", func := "voussoir/voussoirlaw04.CntRings", spec := "cntRings", inPlace := ["internal/bytealg.IndexByteString", "internal/bytealg.IndexString"], named := ["unicode/utf8.first", "unicode/utf8.acceptRanges", "internal/bytealg.MaxLen"], apart := false, laid := [("unicode/utf8.acceptRanges", laid_unicode_utf8_acceptRanges), ("unicode/utf8.first", laid_unicode_utf8_first)], narrowed := true }
def CntRingsUptoSaid : Prop := cntRingsUptoRow.holds Tryd.pinned (OpenSpec.upto cntRingsSpec)

end Rows
end Go.Proofs.YtncdacafdfknnaaDoor
