/-
  NARROWER THAN 'FOR EVERY INPUT', by the rows' own cells (each row's printed sentence says how): ModtextReads: laid · ModtextShows: loops, laid · ModtextBack: loops, laid · ModtextJoins: laid.
  DERIVED. THE GIVEN ROWS OF THIS SEAT. 4 by the template 'for every input the law returns true; each argument reads behind the call as it read before'; 0 by the template 'total and deterministic' (their statements: YtkhoeoilamddaaaGreatDoorTotals.lean).
  GIVEN WITH THE SEED: the statements are not yours to turn. If you find one false, say at which input.
  Laid BY PROGRAM, IN A SANDBOX (cutbox-rows.mjs): the forced cells as the released guide's own fill.sh prints them over the translation 1eb5c62fe72a9bdb… (all of the seat's roots in one cut). By AI agents, Wed Nov 11 2026. No macro, syntax, notation, axiom, sorry.
-/
import Derived.Test.YtkhoeoilamddaaaGreatDoorChecked
import GoSem.PinnedTables
import GoSem.Claim
import GoSem.ClaimJoined
import GoSem.ClaimMapViews
import Derived.JoinedTies
import Derived.KernelRfl
namespace Go.Proofs.YtkhoeoilamddaaaGreatDoor
/- THE CELL 'sum', in the pinned program and in every row, IS THE sha256 OF THE DUMP (.gsa) THAT YtkhoeoilamddaaaGreatDoorProg.lean LOADS. Nothing in Lean hashes anything: it is a label: what it is worth is what the hold of that sum in a sandbox is worth. -/
noncomputable def Tryz.pinned : Pinned := { name := "ytkhoeoilamddaaagreatdoor", sum := "1eb5c62fe72a9bdbd61f36500f12f81114dd54d236294e5df5ff86eb370e0590", checked := Tryz.checked }
namespace Rows
def none {H : Type} : Left H := { results := [], args := [] }

/- WHAT THE LISTED PACKAGE-LEVEL VARIABLES READ AS WHEN THE CALL BEGINS. Each datum BY PROGRAM (the guide's laid-datum.mjs) off the statement by which the dump's own 'gosem.cut.vars' lays the variable. In a bare row this is a premise. The card (YtkhoeoilamddaaaGreatDoorCards.lean) ties it to the program's text. -/
def laid_unicode_utf8_acceptRanges {H : Type} : DataW H := .agg [.agg [.lit (.int .u8 128), .lit (.int .u8 191)], .agg [.lit (.int .u8 160), .lit (.int .u8 191)], .agg [.lit (.int .u8 128), .lit (.int .u8 159)], .agg [.lit (.int .u8 144), .lit (.int .u8 191)], .agg [.lit (.int .u8 128), .lit (.int .u8 143)], .agg [.lit (.int .u8 0), .lit (.int .u8 0)], .agg [.lit (.int .u8 0), .lit (.int .u8 0)], .agg [.lit (.int .u8 0), .lit (.int .u8 0)], .agg [.lit (.int .u8 0), .lit (.int .u8 0)], .agg [.lit (.int .u8 0), .lit (.int .u8 0)], .agg [.lit (.int .u8 0), .lit (.int .u8 0)], .agg [.lit (.int .u8 0), .lit (.int .u8 0)], .agg [.lit (.int .u8 0), .lit (.int .u8 0)], .agg [.lit (.int .u8 0), .lit (.int .u8 0)], .agg [.lit (.int .u8 0), .lit (.int .u8 0)], .agg [.lit (.int .u8 0), .lit (.int .u8 0)]]
def laid_voussoir_lexi_words {H : Type} : DataW H := .agg [.lit (.string [65]), .lit (.string [65, 70]), .lit (.string [65, 71]), .lit (.string [65, 88]), .lit (.string [69]), .lit (.string [69, 70]), .lit (.string [69, 71]), .lit (.string [69, 88]), .lit (.string [85]), .lit (.string [98, 111, 111, 108]), .lit (.string [100, 101, 102]), .lit (.string [101, 108, 115, 101]), .lit (.string [102, 97, 105, 114]), .lit (.string [102, 97, 108, 115, 101]), .lit (.string [105, 102]), .lit (.string [105, 110, 105, 116]), .lit (.string [105, 110, 118, 97, 114]), .lit (.string [109, 111, 100]), .lit (.string [110, 101, 120, 116]), .lit (.string [115, 112, 101, 99]), .lit (.string [116, 104, 101, 110]), .lit (.string [116, 114, 97, 110, 115]), .lit (.string [116, 114, 117, 101]), .lit (.string [118, 97, 114])]
def laid_voussoir_lexi_signs {H : Type} : DataW H := .agg [.lit (.string [60, 45, 62]), .lit (.string [58, 61]), .lit (.string [45, 62]), .lit (.string [46, 46]), .lit (.string [60, 61]), .lit (.string [33, 61]), .lit (.string [61]), .lit (.string [60]), .lit (.string [38]), .lit (.string [124]), .lit (.string [33]), .lit (.string [40]), .lit (.string [41]), .lit (.string [91]), .lit (.string [93]), .lit (.string [59]), .lit (.string [58]), .lit (.string [44]), .lit (.string [43]), .lit (.string [45]), .lit (.string [42])]
/-- One of Go's own tables, pinned by name: the form's constant. -/
def laid_unicode_utf8_first : DataW Unit := Go.Pinned.utf8First

/-- 'voussoirlaw34.ModtextReads': WHATEVER THE INPUT: true; the input reads as it did. -/
def modtextReadsSpec : ChangeSpec := { name := "modtextReads", fn := fun _ => fun
  | [d] => { results := [.lit (.bool true)], args := [d] }
  | _ => none }
def modtextReadsRow : OpenClaim := { program := "ytkhoeoilamddaaagreatdoor", sum := "1eb5c62fe72a9bdbd61f36500f12f81114dd54d236294e5df5ff86eb370e0590", func := "voussoir/voussoirlaw34.ModtextReads", spec := "modtextReads", inPlace := ["internal/bytealg.IndexByteString", "internal/bytealg.IndexString", "internal/abi.NoEscape", "internal/bytealg.MakeNoZero"], unfollowed := true, recurses := true, named := ["voussoir/lexi.words", "voussoir/lexi.signs", "unicode/utf8.first", "unicode/utf8.acceptRanges", "internal/bytealg.MaxLen"], apart := false, laid := [("unicode/utf8.acceptRanges", laid_unicode_utf8_acceptRanges), ("voussoir/lexi.words", laid_voussoir_lexi_words), ("voussoir/lexi.signs", laid_voussoir_lexi_signs), ("unicode/utf8.first", laid_unicode_utf8_first)] }
def ModtextReadsSaid : Prop := modtextReadsRow.holds Tryz.pinned (OpenSpec.ofChange modtextReadsSpec)

/-- ITS FALSE NEIGHBOUR: 'it returns false'. Refute it at one input. -/
def modtextReadsWrong : ChangeSpec := { name := "modtextReads", fn := fun _ => fun
  | [d] => { results := [.lit (.bool false)], args := [d] }
  | _ => none }
def ModtextReadsWrongFalsely : Prop := modtextReadsRow.holds Tryz.pinned (OpenSpec.ofChange modtextReadsWrong)

/-- 'voussoirlaw34.ModtextShows': WHATEVER THE INPUT: true; the input reads as it did. -/
def modtextShowsSpec : ChangeSpec := { name := "modtextShows", fn := fun _ => fun
  | [d] => { results := [.lit (.bool true)], args := [d] }
  | _ => none }
def modtextShowsRow : OpenClaim := { program := "ytkhoeoilamddaaagreatdoor", sum := "1eb5c62fe72a9bdbd61f36500f12f81114dd54d236294e5df5ff86eb370e0590", func := "voussoir/voussoirlaw34.ModtextShows", spec := "modtextShows", inPlace := ["internal/bytealg.IndexByteString", "internal/bytealg.IndexString", "internal/abi.NoEscape", "internal/bytealg.MakeNoZero"], unfollowed := true, recurses := true, named := ["voussoir/lexi.words", "voussoir/lexi.signs", "unicode/utf8.first", "unicode/utf8.acceptRanges", "internal/bytealg.MaxLen"], loops := true, apart := false, laid := [("unicode/utf8.acceptRanges", laid_unicode_utf8_acceptRanges), ("voussoir/lexi.words", laid_voussoir_lexi_words), ("voussoir/lexi.signs", laid_voussoir_lexi_signs), ("unicode/utf8.first", laid_unicode_utf8_first)] }
def ModtextShowsSaid : Prop := modtextShowsRow.holds Tryz.pinned (OpenSpec.ofChange modtextShowsSpec)

/-- ITS FALSE NEIGHBOUR: 'it returns false'. Refute it at one input. -/
def modtextShowsWrong : ChangeSpec := { name := "modtextShows", fn := fun _ => fun
  | [d] => { results := [.lit (.bool false)], args := [d] }
  | _ => none }
def ModtextShowsWrongFalsely : Prop := modtextShowsRow.holds Tryz.pinned (OpenSpec.ofChange modtextShowsWrong)

/-- 'voussoirlaw34.ModtextBack': WHATEVER THE INPUT: true; the input reads as it did. -/
def modtextBackSpec : ChangeSpec := { name := "modtextBack", fn := fun _ => fun
  | [d1, d2] => { results := [.lit (.bool true)], args := [d1, d2] }
  | _ => none }
def modtextBackRow : OpenClaim := { program := "ytkhoeoilamddaaagreatdoor", sum := "1eb5c62fe72a9bdbd61f36500f12f81114dd54d236294e5df5ff86eb370e0590", func := "voussoir/voussoirlaw34.ModtextBack", spec := "modtextBack", inPlace := ["internal/bytealg.IndexByteString", "internal/bytealg.IndexString", "internal/abi.NoEscape", "internal/bytealg.MakeNoZero"], unfollowed := true, recurses := true, named := ["voussoir/lexi.words", "voussoir/lexi.signs", "unicode/utf8.first", "unicode/utf8.acceptRanges", "internal/bytealg.MaxLen"], loops := true, apart := false, laid := [("unicode/utf8.acceptRanges", laid_unicode_utf8_acceptRanges), ("voussoir/lexi.words", laid_voussoir_lexi_words), ("voussoir/lexi.signs", laid_voussoir_lexi_signs), ("unicode/utf8.first", laid_unicode_utf8_first)] }
def ModtextBackSaid : Prop := modtextBackRow.holds Tryz.pinned (OpenSpec.ofChange modtextBackSpec)

/-- ITS FALSE NEIGHBOUR: 'it returns false'. Refute it at one input. -/
def modtextBackWrong : ChangeSpec := { name := "modtextBack", fn := fun _ => fun
  | [d1, d2] => { results := [.lit (.bool false)], args := [d1, d2] }
  | _ => none }
def ModtextBackWrongFalsely : Prop := modtextBackRow.holds Tryz.pinned (OpenSpec.ofChange modtextBackWrong)

/-- 'voussoirlaw34.ModtextJoins': WHATEVER THE INPUT: true; the input reads as it did. -/
def modtextJoinsSpec : ChangeSpec := { name := "modtextJoins", fn := fun _ => fun
  | [d1, d2] => { results := [.lit (.bool true)], args := [d1, d2] }
  | _ => none }
def modtextJoinsRow : OpenClaim := { program := "ytkhoeoilamddaaagreatdoor", sum := "1eb5c62fe72a9bdbd61f36500f12f81114dd54d236294e5df5ff86eb370e0590", func := "voussoir/voussoirlaw34.ModtextJoins", spec := "modtextJoins", inPlace := ["internal/bytealg.IndexByteString", "internal/bytealg.IndexString", "internal/abi.NoEscape", "internal/bytealg.MakeNoZero"], unfollowed := true, recurses := true, named := ["voussoir/lexi.words", "voussoir/lexi.signs", "unicode/utf8.first", "unicode/utf8.acceptRanges", "internal/bytealg.MaxLen"], apart := false, laid := [("unicode/utf8.acceptRanges", laid_unicode_utf8_acceptRanges), ("voussoir/lexi.words", laid_voussoir_lexi_words), ("voussoir/lexi.signs", laid_voussoir_lexi_signs), ("unicode/utf8.first", laid_unicode_utf8_first)] }
def ModtextJoinsSaid : Prop := modtextJoinsRow.holds Tryz.pinned (OpenSpec.ofChange modtextJoinsSpec)

/-- ITS FALSE NEIGHBOUR: 'it returns false'. Refute it at one input. -/
def modtextJoinsWrong : ChangeSpec := { name := "modtextJoins", fn := fun _ => fun
  | [d1, d2] => { results := [.lit (.bool false)], args := [d1, d2] }
  | _ => none }
def ModtextJoinsWrongFalsely : Prop := modtextJoinsRow.holds Tryz.pinned (OpenSpec.ofChange modtextJoinsWrong)

/- THE SECOND FORM. 'bulk': how many values and letters a reading holds, each counted each time it is reached (what is shared counts as often as it is met; a slice's spare places count too). A statement '..UptoSaid' is the law's where the arguments, and the package variables that the reading takes, are together of bulk at most 1048576: NARROWER than '..Said'. Prove '..Said' where nothing that the law and all that it calls make is longer than what came in: it says more and counts as full. Else prove '..UptoSaid'. A law counts once. -/
mutual
def uptoBulk {H : Type} : DataW H → Nat
  | .lit (.string bytes) => bytes.length + 1
  | .lit _ => 1
  | .nil => 1
  | .ptr d => uptoBulk d + 1
  | .slice elems spare => uptoBulkAll elems + uptoBulkAll spare + 1
  | .agg parts => uptoBulkAll parts + 1
  | .iface _ d => uptoBulk d + 1
  | .map entries => uptoBulkEntries entries + 1
  | .held _ => 1
def uptoBulkAll {H : Type} : List (DataW H) → Nat
  | [] => 0
  | d :: r => uptoBulk d + uptoBulkAll r
def uptoBulkEntries {H : Type} : List (Lit × DataW H) → Nat
  | [] => 0
  | x :: r => uptoBulkEntry x + uptoBulkEntries r
def uptoBulkEntry {H : Type} : Lit × DataW H → Nat
  | (.string bytes, d) => bytes.length + uptoBulk d + 1
  | (_, d) => uptoBulk d + 1
 end
def uptoSmall : (H : Type) → List (DataW H) → Bool := fun _ ds => decide (uptoBulkAll ds ≤ 1048576)
def OpenSpec.upto (s : _root_.Go.ChangeSpec) : _root_.Go.OpenSpec := { _root_.Go.OpenSpec.ofChange s with cond := some uptoSmall }

/-- 'voussoirlaw34.ModtextReads', WHERE WHAT IT READS IS OF BULK AT MOST 1048576: true; the input reads as it did. -/
def modtextReadsUptoRow : OpenClaim := { program := "ytkhoeoilamddaaagreatdoor", sum := "1eb5c62fe72a9bdbd61f36500f12f81114dd54d236294e5df5ff86eb370e0590", func := "voussoir/voussoirlaw34.ModtextReads", spec := "modtextReads", inPlace := ["internal/bytealg.IndexByteString", "internal/bytealg.IndexString", "internal/abi.NoEscape", "internal/bytealg.MakeNoZero"], unfollowed := true, recurses := true, named := ["voussoir/lexi.words", "voussoir/lexi.signs", "unicode/utf8.first", "unicode/utf8.acceptRanges", "internal/bytealg.MaxLen"], apart := false, laid := [("unicode/utf8.acceptRanges", laid_unicode_utf8_acceptRanges), ("voussoir/lexi.words", laid_voussoir_lexi_words), ("voussoir/lexi.signs", laid_voussoir_lexi_signs), ("unicode/utf8.first", laid_unicode_utf8_first)], narrowed := true }
def ModtextReadsUptoSaid : Prop := modtextReadsUptoRow.holds Tryz.pinned (OpenSpec.upto modtextReadsSpec)

/-- 'voussoirlaw34.ModtextShows', WHERE WHAT IT READS IS OF BULK AT MOST 1048576: true; the input reads as it did. -/
def modtextShowsUptoRow : OpenClaim := { program := "ytkhoeoilamddaaagreatdoor", sum := "1eb5c62fe72a9bdbd61f36500f12f81114dd54d236294e5df5ff86eb370e0590", func := "voussoir/voussoirlaw34.ModtextShows", spec := "modtextShows", inPlace := ["internal/bytealg.IndexByteString", "internal/bytealg.IndexString", "internal/abi.NoEscape", "internal/bytealg.MakeNoZero"], unfollowed := true, recurses := true, named := ["voussoir/lexi.words", "voussoir/lexi.signs", "unicode/utf8.first", "unicode/utf8.acceptRanges", "internal/bytealg.MaxLen"], loops := true, apart := false, laid := [("unicode/utf8.acceptRanges", laid_unicode_utf8_acceptRanges), ("voussoir/lexi.words", laid_voussoir_lexi_words), ("voussoir/lexi.signs", laid_voussoir_lexi_signs), ("unicode/utf8.first", laid_unicode_utf8_first)], narrowed := true }
def ModtextShowsUptoSaid : Prop := modtextShowsUptoRow.holds Tryz.pinned (OpenSpec.upto modtextShowsSpec)

/-- 'voussoirlaw34.ModtextBack', WHERE WHAT IT READS IS OF BULK AT MOST 1048576: true; the input reads as it did. -/
def modtextBackUptoRow : OpenClaim := { program := "ytkhoeoilamddaaagreatdoor", sum := "1eb5c62fe72a9bdbd61f36500f12f81114dd54d236294e5df5ff86eb370e0590", func := "voussoir/voussoirlaw34.ModtextBack", spec := "modtextBack", inPlace := ["internal/bytealg.IndexByteString", "internal/bytealg.IndexString", "internal/abi.NoEscape", "internal/bytealg.MakeNoZero"], unfollowed := true, recurses := true, named := ["voussoir/lexi.words", "voussoir/lexi.signs", "unicode/utf8.first", "unicode/utf8.acceptRanges", "internal/bytealg.MaxLen"], loops := true, apart := false, laid := [("unicode/utf8.acceptRanges", laid_unicode_utf8_acceptRanges), ("voussoir/lexi.words", laid_voussoir_lexi_words), ("voussoir/lexi.signs", laid_voussoir_lexi_signs), ("unicode/utf8.first", laid_unicode_utf8_first)], narrowed := true }
def ModtextBackUptoSaid : Prop := modtextBackUptoRow.holds Tryz.pinned (OpenSpec.upto modtextBackSpec)

/-- 'voussoirlaw34.ModtextJoins', WHERE WHAT IT READS IS OF BULK AT MOST 1048576: true; the input reads as it did. -/
def modtextJoinsUptoRow : OpenClaim := { program := "ytkhoeoilamddaaagreatdoor", sum := "1eb5c62fe72a9bdbd61f36500f12f81114dd54d236294e5df5ff86eb370e0590", func := "voussoir/voussoirlaw34.ModtextJoins", spec := "modtextJoins", inPlace := ["internal/bytealg.IndexByteString", "internal/bytealg.IndexString", "internal/abi.NoEscape", "internal/bytealg.MakeNoZero"], unfollowed := true, recurses := true, named := ["voussoir/lexi.words", "voussoir/lexi.signs", "unicode/utf8.first", "unicode/utf8.acceptRanges", "internal/bytealg.MaxLen"], apart := false, laid := [("unicode/utf8.acceptRanges", laid_unicode_utf8_acceptRanges), ("voussoir/lexi.words", laid_voussoir_lexi_words), ("voussoir/lexi.signs", laid_voussoir_lexi_signs), ("unicode/utf8.first", laid_unicode_utf8_first)], narrowed := true }
def ModtextJoinsUptoSaid : Prop := modtextJoinsUptoRow.holds Tryz.pinned (OpenSpec.upto modtextJoinsSpec)

end Rows
end Go.Proofs.YtkhoeoilamddaaaGreatDoor
