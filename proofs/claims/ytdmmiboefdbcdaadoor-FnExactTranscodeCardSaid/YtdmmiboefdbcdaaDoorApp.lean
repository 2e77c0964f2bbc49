/-
  utf8.AppendRune onto a row of bytes of the call's own.
-/
import Derived.Test.YtdmmiboefdbcdaaDoorChr
import Derived.Shelf.Utf8.AppendRune
namespace Go.Proofs.YtdmmiboefdbcdaaDoor
open Go.RowKit
set_option linter.unusedVariables false
set_option linter.unusedSimpArgs false
set_option linter.unnecessarySimpa false

def ru_ren : Go.Shelf.Ren := ⟨fun | 242 => 53 | 278 => 54 | n => n, fun | 4 => 4 | 5 => 5 | 21 => 21 | 37 => 43 | 46 => 47 | 51 => 55 | n => n, fun n => n⟩
theorem ru_lays : Lays.n242 Tryd.prog ru_ren :=
  { mixed := by kernel_rfl
    f242 := Tryd.func53.trans (congrArg some (by kernel_rfl))
    f278 := Tryd.func54.trans (congrArg some (by kernel_rfl))
    t4 := Tryd.underlying4
    a4 := Tryd.isAgg4
    z4 := Tryd.sizeOf4
    v4 := Tryd.zeroValue4
    t5 := Tryd.underlying5
    a5 := Tryd.isAgg5
    z5 := Tryd.sizeOf5
    v5 := Tryd.zeroValue5
    t21 := Tryd.underlying21
    a21 := Tryd.isAgg21
    z21 := Tryd.sizeOf21
    v21 := Tryd.zeroValue21
    t37 := Tryd.underlying43
    a37 := Tryd.isAgg43
    z37 := Tryd.sizeOf43
    v37 := Tryd.zeroValue43
    t46 := Tryd.underlying47
    a46 := Tryd.isAgg47
    z46 := Tryd.sizeOf47
    v46 := Tryd.zeroValue47
    t51 := Tryd.underlying55
    a51 := Tryd.isAgg55
    z51 := Tryd.sizeOf55
    v51 := Tryd.zeroValue55 }

theorem appendRune_any (B : Nat) (v : Value) (n : Nat) (xs : List Value) (r : Int) (hr0 : -2147483648 ≤ r) (hr1 : r ≤ 2147483647) (w : World) (hown : w.ownsRowF B 5 1 v n xs) (hlen : n + 4 ≤ 140737488355328) (hBw : B ≤ w.heap.size) :
    Calls Tryd.prog 53 #[v, .int .i32 r] w fun e w' => ∃ v', e = .returned v' ∧ w'.ownsRowF B 5 1 v' (n + (Lib.runeCells r).length) (xs ++ Lib.runeCells r) ∧ ∃ o, (w.alloc o).grownBy w' v.ownBlock :=
  Any.utf8_AppendRune_row ru_lays (by kernel_rfl) B v n xs r hr0 hr1 w hown hlen hBw
end Go.Proofs.YtdmmiboefdbcdaaDoor
