/-
  A fact of the whole program, apart: mayEnter (a great seat's wrap of a row outgrows the lid on memory with all of them in one). (and 2 more texts)
-/
import Derived.Test.YtfpannkadjdnaaaGreatDoorRows
import Derived.WalkKit
import Derived.ProofKit
import Derived.OpenShut
namespace Go.Proofs.YtfpannkadjdnaaaGreatDoor
open Go.ChangeShapes Go.WideShapes Go.ChangeAt Go.RowKit
theorem may_enter:Tryz.pinned.checked.prog.mayEnter=true:=by kernel_rfl
theorem a09:Tryz.pinned.checked.prog.liftsFinal=Rows.fnExactTakeAsRow.lifted:=by kernel_rfl
theorem make_is:Tryz.pinned.checked.prog.make=some Rows.fnExactTakeAsRow.make:=by kernel_rfl
end Go.Proofs.YtfpannkadjdnaaaGreatDoor
