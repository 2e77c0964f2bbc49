/-
  A fact of the whole program, apart: liftsFinal (a great seat's wrap of a row outgrows the lid on memory with all of them in one).
-/
import Derived.Test.YtbafphecjijdmaaGreatDoorRows
import Derived.WalkKit
import Derived.ProofKit
import Derived.OpenShut
namespace Go.Proofs.YtbafphecjijdmaaGreatDoor
open Go.ChangeShapes Go.WideShapes Go.ChangeAt Go.RowKit
theorem lifts_final : Tryz.pinned.checked.prog.liftsFinal = Rows.fnExactFaceServesRow.lifted := by kernel_rfl
end Go.Proofs.YtbafphecjijdmaaGreatDoor
