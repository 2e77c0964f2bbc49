/-
  Instructions: the bounds of an operand, and whether an instruction is valid: spec.InsOk and impl.InsOk.
-/
import Derived.Test.YtflpfcnpjadccaaGreatDoorSmall
import Derived.Lib.SmallJoins
namespace Go.Proofs.YtflpfcnpjadccaaGreatDoor
open Go.RowKit
set_option linter.unusedVariables false
set_option linter.unusedSimpArgs false
set_option linter.unnecessarySimpa false

def opLo (k : Int) : Int := if k == 1 then -9223372036854775808 else 0
def opHi (k : Int) : Int :=
  if k == 1 then 9223372036854775807 else if k == 2 || k == 3 || k == 4 then 15 else if k == 24 || k == 25 || k == 26 then 1
  else if k == 29 || k == 30 then 6 else if k == 32 then 7 else if k == 33 then 11
  else if k == 34 || k == 35 || k == 36 || k == 37 || k == 38 || k == 39 then 4096 else 0
def opHas (k : Int) : Bool :=
  k == 1 || k == 2 || k == 3 || k == 4 || k == 24 || k == 25 || k == 26 || k == 29 || k == 30 || k == 32 || k == 33 || k == 34 || k == 35 || k == 36 || k == 37 || k == 38 || k == 39

theorem ret_op {a b a' b' : Int} {c c' : Bool} (h1 : a = a') (h2 : b = b') (h3 : c = c') :
    Ending.returned (.tuple #[.int .i64 a, .int .i64 b, .bool c]) = .returned (.tuple #[.int .i64 a', .int .i64 b', .bool c']) := by rw [h1, h2, h3]

theorem specOp_any (k : Int) (w : World) :
    Calls Tryz.prog 71 #[.int .i64 k] w fun e w' => e = .returned (.tuple #[.int .i64 (opLo k), .int .i64 (opHi k), .bool (opHas k)]) ∧ w = w' := by
  go_enter Tryz.func71, Tryz.ntmps71
  go_wp2
  all_goals go_ret3
  all_goals exact ⟨ret_op (by simp [opLo, *]) (by simp [opHi, *]) (by simp [opHas, *]), rfl⟩

theorem implRange9_any (w : World) :
    Calls Tryz.prog 105 #[.int .i64 9] w fun e w' => e = .returned (.tuple #[.int .i64 (-9223372036854775808), .int .i64 9223372036854775807, .bool true]) ∧ w = w' := by
  go_enter Tryz.func105, Tryz.ntmps105
  go_wp2
  go_ret3
  exact ⟨rfl, rfl⟩
theorem implOp_any (k : Int) (w : World) :
    Calls Tryz.prog 83 #[.int .i64 k] w fun e w' => e = .returned (.tuple #[.int .i64 (opLo k), .int .i64 (opHi k), .bool (opHas k)]) ∧ w = w' := by
  go_enter Tryz.func83, Tryz.ntmps83
  go_wp2_with (first | (go_at_call 105; refine (implRange9_any _).mono ?_; rintro e w' ⟨rfl, rfl⟩))
  all_goals go_ret3
  all_goals exact ⟨ret_op (by simp [opLo, *]) (by simp [opHi, *]) (by simp [opHas, *]), rfl⟩

def insOk (op a : Int) : Bool := inB op 1 40 && inB a (opLo op) (opHi op)

theorem specIns_any (op a : Int) (w : World) :
    Calls Tryz.prog 69 #[.agg #[.int .i64 op, .int .i64 a]] w fun e w' => e = .returned (.bool (insOk op a)) ∧ Below w.heap.size w w' := by
  cases h1 : inB op 1 40 <;> cases h2 : inB a (opLo op) (opHi op)
  all_goals
    go_enter Tryz.func69, Tryz.ntmps69
    go_wp2_with (first | (go_at_call 71; refine (specOp_any _ _).mono ?_; rintro e w' ⟨rfl, rfl⟩) | (go_at_call 36; refine (l00In_any _ _ _ _).mono ?_; rintro e w' ⟨rfl, rfl⟩))
    go_ret
    exact ⟨ret_bool (by simp [insOk, h1, h2]), (Below.refl _ _).alloc (Nat.le_refl _) _⟩
theorem implInsOk_any (op a : Int) (w : World) :
    Calls Tryz.prog 75 #[.agg #[.int .i64 op, .int .i64 a]] w fun e w' => e = .returned (.bool (insOk op a)) ∧ Below w.heap.size w w' := by
  cases h1 : inB op 1 40 <;> cases h2 : inB a (opLo op) (opHi op)
  all_goals
    go_enter Tryz.func75, Tryz.ntmps75
    go_wp2_with (first | (go_at_call 83; refine (implOp_any _ _).mono ?_; rintro e w' ⟨rfl, rfl⟩) | (go_at_call 46; refine (within_any _ _ _ _).mono ?_; rintro e w' ⟨rfl, rfl⟩))
    go_ret
    exact ⟨ret_bool (by simp [insOk, h1, h2]), (Below.refl _ _).alloc (Nat.le_refl _) _⟩

end Go.Proofs.YtflpfcnpjadccaaGreatDoor
