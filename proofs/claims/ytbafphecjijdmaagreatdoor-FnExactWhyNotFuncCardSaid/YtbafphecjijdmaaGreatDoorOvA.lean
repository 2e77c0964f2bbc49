/-
  A fact of the whole program, apart: mayEnter (a great seat's wrap of a row outgrows the lid on memory with all of them in one).
-/
import Derived.Test.YtbafphecjijdmaaGreatDoorRows
import Derived.WalkKit
import Derived.ProofKit
import Derived.OpenShut
namespace Go.Proofs.YtbafphecjijdmaaGreatDoor
open Go.ChangeShapes Go.WideShapes Go.ChangeAt Go.RowKit
theorem may_enter : Tryz.pinned.checked.prog.mayEnter = true := by kernel_rfl
end Go.Proofs.YtbafphecjijdmaaGreatDoor
