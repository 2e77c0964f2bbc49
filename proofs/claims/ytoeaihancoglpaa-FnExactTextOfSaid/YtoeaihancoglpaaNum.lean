/-
  Sizes of number kinds: spec.NumSize and impl.NumSize.
-/
import Derived.Test.YtoeaihancoglpaaSmall
namespace Go.Proofs.Ytoeaihancoglpaa
open Go.RowKit
set_option linter.unusedVariables false

def numSz (k : Int) : Int :=
  if k == 2 || k == 3 || k == 4 then 1 else if k == 5 || k == 6 then 2
  else if k == 7 || k == 8 || k == 10 || k == 20 || k == 21 || k == 22 || k == 23 then 4 else if k == 9 then 8 else 0

theorem implNumSize0_any (k : Int) (w : World) :
    Calls Try.prog 50 #[.int .i64 k] w fun e w' => e = .returned (.int .i64 (numSz k)) ∧ w = w' := by
  go_enter Try.func50, Try.ntmps50
  go_wp2
  all_goals go_ret
  all_goals exact ⟨ret_int (by simp [numSz, *]), rfl⟩

theorem specNumSize_any (k : Int) (w : World) :
    Calls Try.prog 21 #[.int .i64 k] w fun e w' => e = .returned (.int .i64 (numSz k)) ∧ w = w' := by
  go_enter Try.func21, Try.ntmps21
  go_wp2
  all_goals go_ret
  all_goals exact ⟨ret_int (by simp [numSz, *]), rfl⟩

theorem implNumSize_any (k : Int) (w : World) :
    Calls Try.prog 22 #[.int .i64 k] w fun e w' => e = .returned (.int .i64 (numSz k)) ∧ w = w' := by
  go_enter Try.func22, Try.ntmps22
  go_wp2_with fail
  refine (implNumSize0_any _ _).mono ?_
  rintro e w' ⟨rfl, rfl⟩
  go_wp2_with fail
  go_ret
  exact ⟨rfl, rfl⟩
theorem walk_FnExactNumSize (w : World) (k : Int) (wk : (Lit.int .i64 k).wf = true) :
    Calls Try.prog 6 #[.int .i64 k] w fun e w' => e = .returned (.bool true) ∧ Below w.heap.size w w' := by
  go_enter Try.func6, Try.ntmps6
  go_wp2_with fail
  refine (specNumSize_any _ _).mono ?_
  rintro e w' ⟨rfl, rfl⟩
  go_wp2_with fail
  refine (implNumSize_any _ _).mono ?_
  rintro e w' ⟨rfl, rfl⟩
  have hb : (numSz k != numSz k) = false := by simp
  go_wp2_with fail
  go_ret
  exact ⟨rfl, Below.refl _ _⟩
end Go.Proofs.Ytoeaihancoglpaa
