/-
  laws.markText returns the mark's text.
-/
import Derived.Test.YtlppngpafjfjeaaRows
import Derived.Test.YtlppngpafjfjeaaLaw
import Derived.Laws.BytesArg
namespace Go.Proofs.Ytlppngpafjfjeaa
open Go.RowKit
set_option linter.unusedVariables false
set_option linter.unusedSimpArgs false
set_option linter.unnecessarySimpa false

end Go.Proofs.Ytlppngpafjfjeaa
