/-
  (*store).inBounds, the test of (*store).release.
-/
import Derived.Test.YtlppngpafjfjeaaRelP
import Derived.Test.YtlppngpafjfjeaaFnIdxB
namespace Go.Proofs.Ytlppngpafjfjeaa
open Go.RowKit
set_option linter.unusedVariables false
set_option linter.unusedSimpArgs false
set_option linter.unnecessarySimpa false
set_option maxRecDepth 16000

theorem inBounds_any {p n c : Nat} {A : Option Addr} {fv : Value} {a z : Int} {r : Bool} {w : World} (bl : Blk w p 60 #[.slice A n c, fv]) (hn : n ≤ 1048576) (ha : (Lit.int .i64 a).wf = true) (hz : (Lit.int .i64 z).wf = true) (hr : r = true ↔ 0 ≤ a ∧ 0 ≤ z ∧ a ≤ n ∧ z ≤ n - a) :
    Calls Try.prog 70 #[.pointer (some ⟨p, 0, none⟩), .int .i64 a, .int .i64 z] w fun e w' => e = .returned (.bool r) ∧ Below w.heap.size w w' := by
  have p0 : w.cell? ⟨p, 0, none⟩ = some (.slice A n c) := bl.cell 0
  have HR := Lib.hid hr
  clear hr
  go_enter Try.func70, Try.ntmps70
  go_wp2_with fail
  refine (sizeB_any _ _ _ _).mono ?_
  rintro e w' ⟨rfl, rfl⟩
  go_wp2_with fail
  all_goals
    go_ret
    refine ⟨congrArg (fun b => Ending.returned (.bool b)) ?_, Below.refl _ _⟩
    have hr := HR.out
    cases r <;> simp at hr ⊢ <;> omega
end Go.Proofs.Ytlppngpafjfjeaa

