/-
  From the laws' parameters to the structs (by program: tygen2.py).
-/
import Derived.Test.YtdnadmncbicpdaaDoorTy
namespace Go.Proofs.YtdnadmncbicpdaaDoor
open Go.RowKit
set_option linter.unusedVariables false
set_option linter.unusedSimpArgs false
set_option linter.unnecessarySimpa false
set_option maxRecDepth 100000

open Go.ChangeShapes Go.WideShapes Go.ChangeAt
/-- the laws' parameter types, cell by cell -/
def lawDom : Dom :=
  (2, [.int]) ::
  (9, [.str]) ::
  (4, [.bool]) ::
  (31, [.sl 9]) ::
  []
theorem lawLay : layB Tryd.prog lawDom = true := by kernel_rfl
abbrev lawEnv : Nat → List TyC := lawDom.env
theorem int_conf {ds : List PD} (h : ConfC lawEnv ds [.int]) : ∃ t, ds = intC t := by
  obtain ⟨h1, h2⟩ := h
  match ds, h1 with
  | [d], _ => obtain ⟨n, rfl, _⟩ := conf_int (h2 0 _ _ rfl rfl); exact ⟨n, rfl⟩
theorem str_conf {ds : List PD} (h : ConfC lawEnv ds [.str]) : ∃ t, ds = strC t := by
  obtain ⟨h1, h2⟩ := h
  match ds, h1 with
  | [d], _ => obtain ⟨n, rfl, _⟩ := conf_str (h2 0 _ _ rfl rfl); exact ⟨n, rfl⟩
end Go.Proofs.YtdnadmncbicpdaaDoor
