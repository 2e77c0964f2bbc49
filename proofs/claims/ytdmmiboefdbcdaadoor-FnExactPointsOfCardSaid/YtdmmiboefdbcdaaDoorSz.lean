/-
  The laws' own helpers 'sz..' over the program's types (by program: tygen2.py, tyfam.py).
-/
import Derived.Test.YtdmmiboefdbcdaaDoorFam
import Derived.Test.YtdmmiboefdbcdaaDoorTy
namespace Go.Proofs.YtdmmiboefdbcdaaDoor
open Go.RowKit
set_option linter.unusedVariables false
set_option linter.unusedSimpArgs false
set_option linter.unnecessarySimpa false
set_option maxRecDepth 100000




























end Go.Proofs.YtdmmiboefdbcdaaDoor
