/-
  Sizes of number kinds: spec.NumSize and impl.NumSize.
-/
import Derived.Test.YtmmeaakhikcigaaSmall
namespace Go.Proofs.Ytmmeaakhikcigaa
open Go.RowKit
set_option linter.unusedVariables false
set_option linter.unusedSimpArgs false
set_option linter.unnecessarySimpa false

def numSz (k : Int) : Int :=
  if k == 2 || k == 3 || k == 4 then 1 else if k == 5 || k == 6 then 2
  else if k == 7 || k == 8 || k == 10 || k == 20 || k == 21 || k == 22 || k == 23 then 4 else if k == 9 then 8 else 0

theorem implNumSize0_any (k : Int) (w : World) :
    Calls Try.prog 143 #[.int .i64 k] w fun e w' => e = .returned (.int .i64 (numSz k)) ∧ w = w' := by
  go_enter Try.func143, Try.ntmps143
  go_wp2
  all_goals go_ret
  all_goals exact ⟨ret_int (by simp [numSz, *]), rfl⟩

theorem specNumSize_any (k : Int) (w : World) :
    Calls Try.prog 136 #[.int .i64 k] w fun e w' => e = .returned (.int .i64 (numSz k)) ∧ w = w' := by
  go_enter Try.func136, Try.ntmps136
  go_wp2
  all_goals go_ret
  all_goals exact ⟨ret_int (by simp [numSz, *]), rfl⟩

end Go.Proofs.Ytmmeaakhikcigaa
