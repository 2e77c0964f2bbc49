/-
  laws.markText returns the mark's text.
-/
import Derived.Test.YtnedcpoengcbaaaRows
import Derived.Test.YtnedcpoengcbaaaLaw
import Derived.Laws.BytesArg
namespace Go.Proofs.Ytnedcpoengcbaaa
open Go.RowKit
set_option linter.unusedVariables false
set_option linter.unusedSimpArgs false
set_option linter.unnecessarySimpa false

end Go.Proofs.Ytnedcpoengcbaaa
