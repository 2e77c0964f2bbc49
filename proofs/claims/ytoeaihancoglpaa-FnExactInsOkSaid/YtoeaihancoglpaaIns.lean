/-
  Instructions: the bounds of an operand, and whether an instruction is valid: spec.InsOk and impl.InsOk.
-/
import Derived.Test.YtoeaihancoglpaaSmall
import Derived.Lib.SmallJoins
namespace Go.Proofs.Ytoeaihancoglpaa
open Go.RowKit
set_option linter.unusedVariables false

def opLo (k : Int) : Int := if k == 1 then -9223372036854775808 else 0
def opHi (k : Int) : Int :=
  if k == 1 then 9223372036854775807 else if k == 2 || k == 3 || k == 4 then 15 else if k == 24 || k == 25 || k == 26 then 1
  else if k == 29 || k == 30 then 6 else if k == 32 then 7 else if k == 33 then 11
  else if k == 34 || k == 35 || k == 36 || k == 37 || k == 38 || k == 39 then 4096 else 0
def opHas (k : Int) : Bool :=
  k == 1 || k == 2 || k == 3 || k == 4 || k == 24 || k == 25 || k == 26 || k == 29 || k == 30 || k == 32 || k == 33 || k == 34 || k == 35 || k == 36 || k == 37 || k == 38 || k == 39

theorem ret_op {a b a' b' : Int} {c c' : Bool} (h1 : a = a') (h2 : b = b') (h3 : c = c') :
    Ending.returned (.tuple #[.int .i64 a, .int .i64 b, .bool c]) = .returned (.tuple #[.int .i64 a', .int .i64 b', .bool c']) := by rw [h1, h2, h3]

theorem specOp_any (k : Int) (w : World) :
    Calls Try.prog 74 #[.int .i64 k] w fun e w' => e = .returned (.tuple #[.int .i64 (opLo k), .int .i64 (opHi k), .bool (opHas k)]) ∧ w = w' := by
  go_enter Try.func74, Try.ntmps74
  go_wp2
  all_goals go_ret3
  all_goals exact ⟨ret_op (by simp [opLo, *]) (by simp [opHi, *]) (by simp [opHas, *]), rfl⟩

theorem implRange9_any (w : World) :
    Calls Try.prog 75 #[.int .i64 9] w fun e w' => e = .returned (.tuple #[.int .i64 (-9223372036854775808), .int .i64 9223372036854775807, .bool true]) ∧ w = w' := by
  go_enter Try.func75, Try.ntmps75
  go_wp2
  go_ret3
  exact ⟨rfl, rfl⟩
theorem implOp_any (k : Int) (w : World) :
    Calls Try.prog 60 #[.int .i64 k] w fun e w' => e = .returned (.tuple #[.int .i64 (opLo k), .int .i64 (opHi k), .bool (opHas k)]) ∧ w = w' := by
  go_enter Try.func60, Try.ntmps60
  go_wp2_with (first | (go_at_call 75; refine (implRange9_any _).mono ?_; rintro e w' ⟨rfl, rfl⟩))
  all_goals go_ret3
  all_goals exact ⟨ret_op (by simp [opLo, *]) (by simp [opHi, *]) (by simp [opHas, *]), rfl⟩

def insOk (op a : Int) : Bool := inB op 1 40 && inB a (opLo op) (opHi op)

theorem specIns_any (op a : Int) (w : World) :
    Calls Try.prog 59 #[.agg #[.int .i64 op, .int .i64 a]] w fun e w' => e = .returned (.bool (insOk op a)) ∧ Below w.heap.size w w' := by
  cases h1 : inB op 1 40 <;> cases h2 : inB a (opLo op) (opHi op)
  all_goals
    go_enter Try.func59, Try.ntmps59
    go_wp2_with (first | (go_at_call 74; refine (specOp_any _ _).mono ?_; rintro e w' ⟨rfl, rfl⟩) | (go_at_call 47; refine (l00In_any _ _ _ _).mono ?_; rintro e w' ⟨rfl, rfl⟩))
    go_ret
    exact ⟨ret_bool (by simp [insOk, h1, h2]), (Below.refl _ _).alloc (Nat.le_refl _) _⟩
theorem specInsOk_any (op a : Int) (w : World) :
    Calls Try.prog 31 #[.agg #[.int .i64 op, .int .i64 a]] w fun e w' => e = .returned (.bool (insOk op a)) ∧ Below w.heap.size w w' := by
  go_enter Try.func31, Try.ntmps31
  go_wp2_with fail
  refine (specIns_any _ _ _).mono ?_
  rintro e w1 ⟨rfl, hb⟩
  go_wp2_with fail
  go_ret
  exact ⟨rfl, ((Below.refl _ _).alloc (Nat.le_refl _) _).trans (hb.mono (by simp))⟩
theorem implInsOk_any (op a : Int) (w : World) :
    Calls Try.prog 33 #[.agg #[.int .i64 op, .int .i64 a]] w fun e w' => e = .returned (.bool (insOk op a)) ∧ Below w.heap.size w w' := by
  cases h1 : inB op 1 40 <;> cases h2 : inB a (opLo op) (opHi op)
  all_goals
    go_enter Try.func33, Try.ntmps33
    go_wp2_with (first | (go_at_call 60; refine (implOp_any _ _).mono ?_; rintro e w' ⟨rfl, rfl⟩) | (go_at_call 48; refine (within_any _ _ _ _).mono ?_; rintro e w' ⟨rfl, rfl⟩))
    go_ret
    exact ⟨ret_bool (by simp [insOk, h1, h2]), (Below.refl _ _).alloc (Nat.le_refl _) _⟩

theorem toIns_any (op a : Int) (w : World) :
    Calls Try.prog 32 #[.agg #[.int .i64 op, .int .i64 a]] w fun e w' => e = .returned (.agg #[.int .i64 op, .int .i64 a]) ∧ Below w.heap.size w w' := by
  go_enter Try.func32, Try.ntmps32
  go_wp2
  refine bodyPost_ret (v := .agg #[.int .i64 op, .int .i64 a]) (by simp [results, Try.results32, go_sem]) rfl ⟨rfl, ?_⟩
  repeat (first | exact Below.refl _ _ | refine Below.setCell ?_ (by simp) _ | refine Below.alloc ?_ (by simp; try omega) _)

def ArgIns (v : Value) : Prop := ∃ op a : Int, v = .agg #[.int .i64 op, .int .i64 a] ∧ (Lit.int .i64 op).wf = true ∧ (Lit.int .i64 a).wf = true
theorem argIns {H : Type} {enc : TypeId × Value → H} {w : World} {base : Nat} {spare : Nat → Bool} {held : Bool} {r : Reach} {v : Value} {d : DataW H} {ps : List MemPlace} {b0 : Nat}
    (hv : Value.okWide Try.prog w r b0 30 v) (h : DataW.Trod enc Try.prog w base spare held 30 v d ps) : ArgIns v := by
  obtain ⟨c0, c1, y0, y1, m, rfl, rfl, rfl, hy0, hy1⟩ := Go.Joins.open_agg2 Try.underlying30 (by kernel_rfl) (by kernel_rfl) hv h
  obtain ⟨a, e0, rfl, wa⟩ := DataW.trod_int Try.underlying2 hy0
  obtain ⟨b, e1, rfl, wb⟩ := DataW.trod_int Try.underlying2 hy1
  simp at e0 e1
  subst e0 e1
  exact ⟨a, b, rfl, wa, wb⟩

theorem walk_FnExactInsOk (w : World) (v0 : Value) (h : ArgIns v0) :
    Calls Try.prog 10 #[v0] w fun e w' => e = .returned (.bool true) ∧ Below w.heap.size w w' := by
  obtain ⟨op, a, rfl, _, _⟩ := h
  go_enter Try.func10, Try.ntmps10
  go_wp2_with fail
  refine (toIns_any _ _ _).mono ?_
  rintro e w1 ⟨rfl, hb1⟩
  have hB1 := hb1
  have c0 : w1.cell? ⟨w.heap.size, 0, none⟩ = some (.int .i64 op) := box_cell hB1 0
  have c1 : w1.cell? ⟨w.heap.size, 1, none⟩ = some (.int .i64 a) := box_cell hB1 1
  go_wp2_with fail
  refine (specInsOk_any _ _ _).mono ?_
  rintro e w2 ⟨rfl, hb2⟩
  have hB2 := hB1.trans (hb2.mono hB1.size)
  have c0' : w2.cell? ⟨w.heap.size, 0, none⟩ = some (.int .i64 op) := box_cell hB2 0
  have c1' : w2.cell? ⟨w.heap.size, 1, none⟩ = some (.int .i64 a) := box_cell hB2 1
  go_wp2_with fail
  refine (toIns_any _ _ _).mono ?_
  rintro e w3 ⟨rfl, hb3⟩
  have hB3 := hB2.trans (hb3.mono hB2.size)
  go_wp2_with fail
  refine (implInsOk_any _ _ _).mono ?_
  rintro e w4 ⟨rfl, hb4⟩
  have hB4 := hB3.trans (hb4.mono hB3.size)
  go_wp2_with fail
  go_ret
  exact ⟨rfl, below_box hB4⟩
end Go.Proofs.Ytoeaihancoglpaa
