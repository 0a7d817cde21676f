/-
  NARROWER THAN 'FOR EVERY INPUT', by the rows' own cells (each row's printed sentence says how): TtextShows: loops, laid · TtextBack: loops, laid.
  DERIVED. THE GIVEN ROWS OF THIS SEAT. 2 by the template 'for every input the law returns true; each argument reads behind the call as it read before'; 0 by the template 'total and deterministic' (their statements: YtnbphgeepnknlaaDoorTotals.lean).
  GIVEN WITH THE SEED: the statements are not yours to turn. If you find one false, say at which input.
  Laid BY PROGRAM, IN A SANDBOX (cutbox-rows.mjs): the forced cells as the released guide's own fill.sh prints them over the translation 223818c3105b2651… (all of the seat's roots in one cut). By AI agents, Wed Nov 11 2026. No macro, syntax, notation, axiom, sorry.
-/
import Derived.Test.YtnbphgeepnknlaaDoorChecked
import GoSem.PinnedTables
import GoSem.Claim
import GoSem.ClaimJoined
import GoSem.ClaimMapViews
import Derived.JoinedTies
import Derived.KernelRfl
namespace Go.Proofs.YtnbphgeepnknlaaDoor
/- THE CELL 'sum', in the pinned program and in every row, IS THE sha256 OF THE DUMP (.gsa) THAT YtnbphgeepnknlaaDoorProg.lean LOADS. Nothing in Lean hashes anything: it is a label: what it is worth is what the hold of that sum in a sandbox is worth. -/
noncomputable def Tryd.pinned : Pinned := { name := "ytnbphgeepnknlaadoor", sum := "223818c3105b26518b658eba73d263c98752ec4bb5d4c9c39d9bd411d46f238b", checked := Tryd.checked }
namespace Rows
def none {H : Type} : Left H := { results := [], args := [] }

/- WHAT THE LISTED PACKAGE-LEVEL VARIABLES READ AS WHEN THE CALL BEGINS. Each datum BY PROGRAM (the guide's laid-datum.mjs) off the statement by which the dump's own 'gosem.cut.vars' lays the variable. In a bare row this is a premise. The card (YtnbphgeepnknlaaDoorCards.lean) ties it to the program's text. -/
def laid_unicode_utf8_acceptRanges {H : Type} : DataW H := .agg [.agg [.lit (.int .u8 128), .lit (.int .u8 191)], .agg [.lit (.int .u8 160), .lit (.int .u8 191)], .agg [.lit (.int .u8 128), .lit (.int .u8 159)], .agg [.lit (.int .u8 144), .lit (.int .u8 191)], .agg [.lit (.int .u8 128), .lit (.int .u8 143)], .agg [.lit (.int .u8 0), .lit (.int .u8 0)], .agg [.lit (.int .u8 0), .lit (.int .u8 0)], .agg [.lit (.int .u8 0), .lit (.int .u8 0)], .agg [.lit (.int .u8 0), .lit (.int .u8 0)], .agg [.lit (.int .u8 0), .lit (.int .u8 0)], .agg [.lit (.int .u8 0), .lit (.int .u8 0)], .agg [.lit (.int .u8 0), .lit (.int .u8 0)], .agg [.lit (.int .u8 0), .lit (.int .u8 0)], .agg [.lit (.int .u8 0), .lit (.int .u8 0)], .agg [.lit (.int .u8 0), .lit (.int .u8 0)], .agg [.lit (.int .u8 0), .lit (.int .u8 0)]]
def laid_voussoir_lexi_words {H : Type} : DataW H := .agg [.lit (.string [65]), .lit (.string [65, 70]), .lit (.string [65, 71]), .lit (.string [65, 88]), .lit (.string [69]), .lit (.string [69, 70]), .lit (.string [69, 71]), .lit (.string [69, 88]), .lit (.string [85]), .lit (.string [98, 111, 111, 108]), .lit (.string [100, 101, 102]), .lit (.string [101, 108, 115, 101]), .lit (.string [102, 97, 105, 114]), .lit (.string [102, 97, 108, 115, 101]), .lit (.string [105, 102]), .lit (.string [105, 110, 105, 116]), .lit (.string [105, 110, 118, 97, 114]), .lit (.string [109, 111, 100]), .lit (.string [110, 101, 120, 116]), .lit (.string [115, 112, 101, 99]), .lit (.string [116, 104, 101, 110]), .lit (.string [116, 114, 97, 110, 115]), .lit (.string [116, 114, 117, 101]), .lit (.string [118, 97, 114])]
def laid_voussoir_lexi_signs {H : Type} : DataW H := .agg [.lit (.string [60, 45, 62]), .lit (.string [58, 61]), .lit (.string [45, 62]), .lit (.string [46, 46]), .lit (.string [60, 61]), .lit (.string [33, 61]), .lit (.string [61]), .lit (.string [60]), .lit (.string [38]), .lit (.string [124]), .lit (.string [33]), .lit (.string [40]), .lit (.string [41]), .lit (.string [91]), .lit (.string [93]), .lit (.string [59]), .lit (.string [58]), .lit (.string [44]), .lit (.string [43]), .lit (.string [45]), .lit (.string [42])]
/-- One of Go's own tables, pinned by name: the form's constant. -/
def laid_unicode_utf8_first : DataW Unit := Go.Pinned.utf8First

/-- 'voussoirlaw31.TtextShows': WHATEVER THE INPUT: true; the input reads as it did. -/
def ttextShowsSpec : ChangeSpec := { name := "ttextShows", fn := fun _ => fun
  | [d] => { results := [.lit (.bool true)], args := [d] }
  | _ => none }
def ttextShowsRow : OpenClaim := { program := "ytnbphgeepnknlaadoor", sum := "223818c3105b26518b658eba73d263c98752ec4bb5d4c9c39d9bd411d46f238b", func := "voussoir/voussoirlaw31.TtextShows", spec := "ttextShows", inPlace := ["internal/bytealg.IndexByteString", "internal/bytealg.IndexString", "internal/abi.NoEscape"], unfollowed := true, recurses := true, named := ["voussoir/lexi.words", "voussoir/lexi.signs", "unicode/utf8.first", "unicode/utf8.acceptRanges", "internal/bytealg.MaxLen"], loops := true, apart := false, laid := [("unicode/utf8.acceptRanges", laid_unicode_utf8_acceptRanges), ("voussoir/lexi.words", laid_voussoir_lexi_words), ("voussoir/lexi.signs", laid_voussoir_lexi_signs), ("unicode/utf8.first", laid_unicode_utf8_first)] }
def TtextShowsSaid : Prop := ttextShowsRow.holds Tryd.pinned (OpenSpec.ofChange ttextShowsSpec)

/-- ITS FALSE NEIGHBOUR: 'it returns false'. Refute it at one input. -/
def ttextShowsWrong : ChangeSpec := { name := "ttextShows", fn := fun _ => fun
  | [d] => { results := [.lit (.bool false)], args := [d] }
  | _ => none }
def TtextShowsWrongFalsely : Prop := ttextShowsRow.holds Tryd.pinned (OpenSpec.ofChange ttextShowsWrong)

/-- 'voussoirlaw31.TtextBack': WHATEVER THE INPUT: true; the input reads as it did. -/
def ttextBackSpec : ChangeSpec := { name := "ttextBack", fn := fun _ => fun
  | [d1, d2] => { results := [.lit (.bool true)], args := [d1, d2] }
  | _ => none }
def ttextBackRow : OpenClaim := { program := "ytnbphgeepnknlaadoor", sum := "223818c3105b26518b658eba73d263c98752ec4bb5d4c9c39d9bd411d46f238b", func := "voussoir/voussoirlaw31.TtextBack", spec := "ttextBack", inPlace := ["internal/bytealg.IndexByteString", "internal/bytealg.IndexString", "internal/abi.NoEscape"], unfollowed := true, recurses := true, named := ["voussoir/lexi.words", "voussoir/lexi.signs", "unicode/utf8.first", "unicode/utf8.acceptRanges", "internal/bytealg.MaxLen"], loops := true, apart := false, laid := [("unicode/utf8.acceptRanges", laid_unicode_utf8_acceptRanges), ("voussoir/lexi.words", laid_voussoir_lexi_words), ("voussoir/lexi.signs", laid_voussoir_lexi_signs), ("unicode/utf8.first", laid_unicode_utf8_first)] }
def TtextBackSaid : Prop := ttextBackRow.holds Tryd.pinned (OpenSpec.ofChange ttextBackSpec)

/-- ITS FALSE NEIGHBOUR: 'it returns false'. Refute it at one input. -/
def ttextBackWrong : ChangeSpec := { name := "ttextBack", fn := fun _ => fun
  | [d1, d2] => { results := [.lit (.bool false)], args := [d1, d2] }
  | _ => none }
def TtextBackWrongFalsely : Prop := ttextBackRow.holds Tryd.pinned (OpenSpec.ofChange ttextBackWrong)

/- THE SECOND FORM. 'bulk': how many values and letters a reading holds, each counted each time it is reached (what is shared counts as often as it is met; a slice's spare places count too). A statement '..UptoSaid' is the law's where the arguments, and the package variables that the reading takes, are together of bulk at most 1048576: NARROWER than '..Said'. Prove '..Said' where nothing that the law and all that it calls make is longer than what came in: it says more and counts as full. Else prove '..UptoSaid'. A law counts once. -/
mutual
def uptoBulk {H : Type} : DataW H → Nat
  | .lit (.string bytes) => bytes.length + 1
  | .lit _ => 1
  | .nil => 1
  | .ptr d => uptoBulk d + 1
  | .slice elems spare => uptoBulkAll elems + uptoBulkAll spare + 1
  | .agg parts => uptoBulkAll parts + 1
  | .iface _ d => uptoBulk d + 1
  | .map entries => uptoBulkEntries entries + 1
  | .held _ => 1
def uptoBulkAll {H : Type} : List (DataW H) → Nat
  | [] => 0
  | d :: r => uptoBulk d + uptoBulkAll r
def uptoBulkEntries {H : Type} : List (Lit × DataW H) → Nat
  | [] => 0
  | x :: r => uptoBulkEntry x + uptoBulkEntries r
def uptoBulkEntry {H : Type} : Lit × DataW H → Nat
  | (.string bytes, d) => bytes.length + uptoBulk d + 1
  | (_, d) => uptoBulk d + 1
 end
def uptoSmall : (H : Type) → List (DataW H) → Bool := fun _ ds => decide (uptoBulkAll ds ≤ 1048576)
def OpenSpec.upto (s : _root_.Go.ChangeSpec) : _root_.Go.OpenSpec := { _root_.Go.OpenSpec.ofChange s with cond := some uptoSmall }

/-- 'voussoirlaw31.TtextShows', WHERE WHAT IT READS IS OF BULK AT MOST 1048576: true; the input reads as it did. -/
def ttextShowsUptoRow : OpenClaim := { program := "ytnbphgeepnknlaadoor", sum := "223818c3105b26518b658eba73d263c98752ec4bb5d4c9c39d9bd411d46f238b", func := "voussoir/voussoirlaw31.TtextShows", spec := "ttextShows", inPlace := ["internal/bytealg.IndexByteString", "internal/bytealg.IndexString", "internal/abi.NoEscape"], unfollowed := true, recurses := true, named := ["voussoir/lexi.words", "voussoir/lexi.signs", "unicode/utf8.first", "unicode/utf8.acceptRanges", "internal/bytealg.MaxLen"], loops := true, apart := false, laid := [("unicode/utf8.acceptRanges", laid_unicode_utf8_acceptRanges), ("voussoir/lexi.words", laid_voussoir_lexi_words), ("voussoir/lexi.signs", laid_voussoir_lexi_signs), ("unicode/utf8.first", laid_unicode_utf8_first)], narrowed := true }
def TtextShowsUptoSaid : Prop := ttextShowsUptoRow.holds Tryd.pinned (OpenSpec.upto ttextShowsSpec)

/-- 'voussoirlaw31.TtextBack', WHERE WHAT IT READS IS OF BULK AT MOST 1048576: true; the input reads as it did. -/
def ttextBackUptoRow : OpenClaim := { program := "ytnbphgeepnknlaadoor", sum := "223818c3105b26518b658eba73d263c98752ec4bb5d4c9c39d9bd411d46f238b", func := "voussoir/voussoirlaw31.TtextBack", spec := "ttextBack", inPlace := ["internal/bytealg.IndexByteString", "internal/bytealg.IndexString", "internal/abi.NoEscape"], unfollowed := true, recurses := true, named := ["voussoir/lexi.words", "voussoir/lexi.signs", "unicode/utf8.first", "unicode/utf8.acceptRanges", "internal/bytealg.MaxLen"], loops := true, apart := false, laid := [("unicode/utf8.acceptRanges", laid_unicode_utf8_acceptRanges), ("voussoir/lexi.words", laid_voussoir_lexi_words), ("voussoir/lexi.signs", laid_voussoir_lexi_signs), ("unicode/utf8.first", laid_unicode_utf8_first)], narrowed := true }
def TtextBackUptoSaid : Prop := ttextBackUptoRow.holds Tryd.pinned (OpenSpec.upto ttextBackSpec)

end Rows
end Go.Proofs.YtnbphgeepnknlaaDoor
