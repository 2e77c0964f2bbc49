/-
  A fact of the whole program, apart: liftsFinal (a great seat's wrap of a row outgrows the lid on memory with all of them in one).
-/
import Derived.Test.YtmmeaakhikcigaaRows
import Derived.WalkKit
import Derived.ProofKit
import Derived.OpenShut
namespace Go.Proofs.Ytmmeaakhikcigaa
open Go.ChangeShapes Go.WideShapes Go.ChangeAt Go.RowKit
theorem lifts_final : Try.pinned.checked.prog.liftsFinal = Rows.fnExactAlignOfRow.lifted := by kernel_rfl
end Go.Proofs.Ytmmeaakhikcigaa
