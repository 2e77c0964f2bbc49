/-
  A fact of the whole program, apart: mayEnter (a great seat's wrap of a row outgrows the lid on memory with all of them in one).
-/
import Derived.Test.YtflpfcnpjadccaaGreatDoorRows
import Derived.WalkKit
import Derived.ProofKit
import Derived.OpenShut
namespace Go.Proofs.YtflpfcnpjadccaaGreatDoor
open Go.ChangeShapes Go.WideShapes Go.ChangeAt Go.RowKit
theorem may_enter : Tryz.pinned.checked.prog.mayEnter = true := by kernel_rfl
end Go.Proofs.YtflpfcnpjadccaaGreatDoor
