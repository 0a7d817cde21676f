/- Walk of the reference: white space. -/
import Derived.Test.YtcjblbpkjegmiaaDoorLexB
namespace Go.Proofs.YtcjblbpkjegmiaaDoor
open Go.RowKit
set_option linter.unusedVariables false

end Go.Proofs.YtcjblbpkjegmiaaDoor
