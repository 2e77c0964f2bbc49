/-
  spec.l10In.
-/
import Derived.Test.YtlppngpafjfjeaaRelI
namespace Go.Proofs.Ytlppngpafjfjeaa
open Go.RowKit
set_option linter.unusedVariables false
set_option linter.unusedSimpArgs false
set_option linter.unnecessarySimpa false
set_option maxRecDepth 16000

set_option maxHeartbeats 1600000 in
theorem l10In_any {s : ByteArray} {A : Option Addr} {n c : Nat} {a z : Int} {r : Bool} {w : World} (hs : s.size ≤ 1048576) (ha : (Lit.int .i64 a).wf = true) (hz : (Lit.int .i64 z).wf = true) (hr : r = true ↔ 0 ≤ a ∧ 0 ≤ z ∧ a ≤ s.size ∧ z ≤ s.size - a) :
    Calls Try.prog 54 #[.agg #[.string s, .slice A n c], .int .i64 a, .int .i64 z] w fun e w' => e = .returned (.bool r) ∧ Below w.heap.size w w' := by
  have HR := Lib.hid hr
  have hB : Below w.heap.size w (w.alloc (.cells #[.string s, .slice A n c] 29)) := (Below.refl _ _).alloc (Nat.le_refl _) _
  have HB := Lib.hid hB
  clear hr hB
  go_enter Try.func54, Try.ntmps54
  go_wp2_with fail
  all_goals
    go_ret
    refine ⟨congrArg (fun b => Ending.returned (.bool b)) ?_, HB.out⟩
    have hr := HR.out
    cases r <;> simp at hr ⊢ <;> omega
end Go.Proofs.Ytlppngpafjfjeaa

