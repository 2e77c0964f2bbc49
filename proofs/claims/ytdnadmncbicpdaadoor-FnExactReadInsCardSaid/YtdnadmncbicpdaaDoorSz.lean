/-
  The laws' own helpers 'sz..' over the program's types (by program: tygen2.py, tyfam.py).
-/
import Derived.Test.YtdnadmncbicpdaaDoorFam
import Derived.Test.YtdnadmncbicpdaaDoorTy
namespace Go.Proofs.YtdnadmncbicpdaaDoor
open Go.RowKit
set_option linter.unusedVariables false
set_option linter.unusedSimpArgs false
set_option linter.unnecessarySimpa false
set_option maxRecDepth 100000
































end Go.Proofs.YtdnadmncbicpdaaDoor
