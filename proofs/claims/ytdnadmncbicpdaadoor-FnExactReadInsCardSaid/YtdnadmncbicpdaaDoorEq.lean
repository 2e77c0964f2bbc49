/-
  The laws' own helpers 'eq..' over the program's types (by program: tygen2.py, tyfam.py).
-/
import Derived.Test.YtdnadmncbicpdaaDoorFam
import Derived.Test.YtdnadmncbicpdaaDoorTy
namespace Go.Proofs.YtdnadmncbicpdaaDoor
open Go.RowKit
set_option linter.unusedVariables false
set_option linter.unusedSimpArgs false
set_option linter.unnecessarySimpa false
set_option maxRecDepth 100000















set_option maxHeartbeats 1600000 in
theorem eqIns_step {op : Int} {a : Int} : EqC 6 (Ins.pd ⟨op, a⟩) := by
  intro B cs us w hB h h'
  obtain rfl := Ins.open_ h
  obtain rfl := Ins.open_ h'
  go_enter Tryd.func6, Tryd.ntmps6
  go_wp2_with fail
  go_ret
  exact ⟨rfl, ((Below.refl _ _).alloc (Nat.le_refl _) _).alloc (by simp) _⟩
theorem eqIns_all (t : Ins) : EqC 6 (Ins.pd t) := by obtain ⟨op, a⟩ := t; exact eqIns_step 

















end Go.Proofs.YtdnadmncbicpdaaDoor
