/-
  What the laws' own helpers do, said over plain data: one statement a family, for every type. Also int64, string and bool as plain data.
-/
import Derived.Test.YtbafphecjijdmaaGreatDoorRows
import Derived.Test.YtbafphecjijdmaaGreatDoorLaw
namespace Go.Proofs.YtbafphecjijdmaaGreatDoor
open Go.RowKit
set_option linter.unusedVariables false
set_option linter.unusedSimpArgs false
set_option linter.unnecessarySimpa false

def SzC (fn : Nat) (ds : List PD) : Prop := ∀ (B : Nat) (cs : List Value) (w : World) (left : Int), 0 ≤ left → left ≤ 1048576 → B ≤ w.heap.size → PD.wfL ds → RepC w B ds cs →
  Calls Tryz.prog fn #[.agg cs.toArray, .int .i64 left] w fun e w' => e = .returned (.int .i64 (szLeft (PD.szL ds) left)) ∧ Below w.heap.size w w'
def SzR (fn : Nat) (d : PD) : Prop := ∀ (B : Nat) (v : Value) (w : World) (left : Int), 0 ≤ left → left ≤ 1048576 → B ≤ w.heap.size → d.wf → Rep w B d v →
  Calls Tryz.prog fn #[v, .int .i64 left] w fun e w' => e = .returned (.int .i64 (szLeft d.sz left)) ∧ Below w.heap.size w w'
def ToC (fn : Nat) (ds : List PD) : Prop := ∀ (B : Nat) (cs : List Value) (w : World), B ≤ w.heap.size → PD.szL ds ≤ 1048576 → RepC w B ds cs →
  Calls Tryz.prog fn #[.agg cs.toArray] w fun e w' => ∃ us, e = .returned (.agg us.toArray) ∧ LvC w' w.heap.size w'.heap.size ds us ∧ Below w.heap.size w w'
def ToR (fn : Nat) (d : PD) : Prop := ∀ (B : Nat) (v : Value) (w : World), B ≤ w.heap.size → d.sz ≤ 1048576 → Rep w B d v →
  Calls Tryz.prog fn #[v] w fun e w' => ∃ u, e = .returned u ∧ Lv w' w.heap.size w'.heap.size d u ∧ Below w.heap.size w w'
def EqC (fn : Nat) (ds : List PD) : Prop := ∀ (B : Nat) (cs us : List Value) (w : World), B ≤ w.heap.size → RepC w B ds cs → RepC w B ds us →
  Calls Tryz.prog fn #[.agg cs.toArray, .agg us.toArray] w fun e w' => e = .returned (.bool true) ∧ Below w.heap.size w w'
def EqR (fn : Nat) (d : PD) : Prop := ∀ (B : Nat) (v u : Value) (w : World), B ≤ w.heap.size → Rep w B d v → Rep w B d u →
  Calls Tryz.prog fn #[v, u] w fun e w' => e = .returned (.bool true) ∧ Below w.heap.size w w'
def MkC (fn : Nat) (ds : List PD) : Prop := ∀ (us : List Value) (F : List Nat) (w : World) (k : Int), 0 ≤ k → k + rowsCnt ds ≤ 1099511627776 → HoldL w ds us F → F.Nodup → (∀ b ∈ F, b < w.heap.size) →
  Calls Tryz.prog fn #[.agg us.toArray, .int .i64 k] w fun e w' => e = .returned (.int .i64 (k + rowsCnt ds)) ∧ HoldL w' (markC ds k) us F ∧ KeepF F w w'
def MkR (fn : Nat) (d : PD) : Prop := ∀ (v : Value) (F : List Nat) (w : World) (k : Int), 0 ≤ k → k + d.cnt ≤ 1099511627776 → Hold w d v F → F.Nodup → (∀ b ∈ F, b < w.heap.size) →
  Calls Tryz.prog fn #[v, .int .i64 k] w fun e w' => e = .returned (.int .i64 (k + d.cnt)) ∧ Hold w' (d.mark k) v F ∧ KeepF F w w'
def HdC (fn : Nat) (ds : List PD) : Prop := ∀ (B : Nat) (us : List Value) (w : World) (k : Int), 0 ≤ k → k + rowsCnt ds ≤ 1099511627776 → B ≤ w.heap.size → RepC w B (markC ds k) us →
  Calls Tryz.prog fn #[.agg us.toArray, .int .i64 k] w fun e w' => e = .returned (.int .i64 (k + rowsCnt ds)) ∧ Below w.heap.size w w'
def HdR (fn : Nat) (d : PD) : Prop := ∀ (B : Nat) (v : Value) (w : World) (k : Int), 0 ≤ k → k + d.cnt ≤ 1099511627776 → B ≤ w.heap.size → Rep w B (d.mark k) v →
  Calls Tryz.prog fn #[v, .int .i64 k] w fun e w' => e = .returned (.int .i64 (k + d.cnt)) ∧ Below w.heap.size w w'

def intC (x : Int) : List PD := [.lit (.int .i64 x)]
def strC (x : ByteArray) : List PD := [.lit (.string x)]
def boolC (x : Bool) : List PD := [.lit (.bool x)]
theorem intC_length (x : Int) : (intC x).length = 1 := rfl
theorem strC_length (x : ByteArray) : (strC x).length = 1 := rfl
theorem boolC_length (x : Bool) : (boolC x).length = 1 := rfl
theorem intC_fit (x : Int) : PD.fitL (intC x) := by simp [intC, PD.fitL, PD.fit]
theorem strC_fit (x : ByteArray) : PD.fitL (strC x) := by simp [strC, PD.fitL, PD.fit]
theorem boolC_fit (x : Bool) : PD.fitL (boolC x) := by simp [boolC, PD.fitL, PD.fit]
theorem szL_ints (xs : List Int) : PD.szL (xs.flatMap intC) = 0 := by
  induction xs with
  | nil => rfl
  | cons x xs ih => rw [List.flatMap_cons, szL_append, ih]; rfl
theorem szL_bools (xs : List Bool) : PD.szL (xs.flatMap boolC) = 0 := by
  induction xs with
  | nil => rfl
  | cons x xs ih => rw [List.flatMap_cons, szL_append, ih]; rfl
theorem szL_fixed {α : Type} {f : α → List PD} (h : ∀ t, PD.szL (f t) = 0) (ts : List α) : PD.szL (ts.flatMap f) = 0 := by
  induction ts with
  | nil => rfl
  | cons x xs ih => rw [List.flatMap_cons, szL_append, ih, h]
theorem szL_strC (x : ByteArray) : PD.szL (strC x) = x.size := by simp [strC, PD.szL, PD.sz]

/-! ### functions of the program: one argument, a scalar result or a slice of the call's own -/
def FnCV (fn : Nat) (ds : List PD) (r : Value) : Prop := ∀ (B : Nat) (cs : List Value) (w : World), B ≤ w.heap.size → RepC w B ds cs →
  Calls Tryz.prog fn #[.agg cs.toArray] w fun e w' => e = .returned r ∧ Below w.heap.size w w'
def FnRV (fn : Nat) (d : PD) (r : Value) : Prop := ∀ (B : Nat) (v : Value) (w : World), B ≤ w.heap.size → Rep w B d v →
  Calls Tryz.prog fn #[v] w fun e w' => e = .returned r ∧ Below w.heap.size w w'
def FnCR (fn : Nat) (ds : List PD) (r : PD) : Prop := ∀ (B : Nat) (cs : List Value) (w : World), B ≤ w.heap.size → RepC w B ds cs →
  Calls Tryz.prog fn #[.agg cs.toArray] w fun e w' => ∃ u, e = .returned u ∧ Lv w' w.heap.size w'.heap.size r u ∧ Below w.heap.size w w'
def FnRR (fn : Nat) (d : PD) (r : PD) : Prop := ∀ (B : Nat) (v : Value) (w : World), B ≤ w.heap.size → Rep w B d v →
  Calls Tryz.prog fn #[v] w fun e w' => ∃ u, e = .returned u ∧ Lv w' w.heap.size w'.heap.size r u ∧ Below w.heap.size w w'
end Go.Proofs.YtbafphecjijdmaaGreatDoor
