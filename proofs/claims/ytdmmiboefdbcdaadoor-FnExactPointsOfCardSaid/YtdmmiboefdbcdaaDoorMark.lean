/-
  laws.markText returns the mark's text.
-/
import Derived.Test.YtdmmiboefdbcdaaDoorRows
import Derived.Test.YtdmmiboefdbcdaaDoorLaw
import Derived.Laws.BytesArg
namespace Go.Proofs.YtdmmiboefdbcdaaDoor
open Go.RowKit
set_option linter.unusedVariables false
set_option linter.unusedSimpArgs false
set_option linter.unnecessarySimpa false

end Go.Proofs.YtdmmiboefdbcdaaDoor
