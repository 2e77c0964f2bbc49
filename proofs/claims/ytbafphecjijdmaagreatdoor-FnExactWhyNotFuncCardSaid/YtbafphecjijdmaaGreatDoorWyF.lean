/-
  Why one function type cannot stand for another: plain, and the contracts' words.
-/
import Derived.Test.YtbafphecjijdmaaGreatDoorWyW
import Derived.Test.YtbafphecjijdmaaGreatDoorPaSpec
namespace Go.Proofs.YtbafphecjijdmaaGreatDoor
open Go.RowKit
set_option linter.unusedVariables false
set_option linter.unusedSimpArgs false
set_option linter.unnecessarySimpa false
def parL (at_ n : ByteArray) : ByteArray := ((at_ ++ ⟨#[40]⟩) ++ n) ++ ⟨#[41]⟩
def funcF (rec : Ty → Ty → ByteArray → Why) (at_ : ByteArray) (ap bp : List Param) (k : Nat) : Why :=
  match ap[k]?, bp[k]? with
  | some x, some y => if x.name = y.name then rec y.typ x.typ (parL at_ y.name) else some (7, parL at_ y.name)
  | _, _ => none
def funcW (rec : Ty → Ty → ByteArray → Why) (a b : FuncType) (at_ : ByteArray) : Why :=
  if a.params.length = b.params.length then
    match firstW (funcF rec at_ a.params b.params) a.params.length with
    | some r => some r
    | none => match rec a.result b.result (at_ ++ ⟨#[45, 62]⟩) with
      | some r => some r
      | none => if a.async = true ∧ b.async = false then some (8, at_) else none
  else some (7, at_)
theorem funcF_ne {rec : Ty → Ty → ByteArray → Why} {at_ : ByteArray} {ap bp : List Param} {k : Nat} {x y : Param} (hx : ap[k]? = some x) (hy : bp[k]? = some y) (h : ¬ x.name = y.name) : funcF rec at_ ap bp k = some (7, parL at_ y.name) := by simp only [funcF, hx, hy]; rw [if_neg h]
theorem funcF_eq {rec : Ty → Ty → ByteArray → Why} {at_ : ByteArray} {ap bp : List Param} {k : Nat} {x y : Param} (hx : ap[k]? = some x) (hy : bp[k]? = some y) (h : x.name = y.name) : funcF rec at_ ap bp k = rec y.typ x.typ (parL at_ y.name) := by simp only [funcF, hx, hy]; rw [if_pos h]
theorem okT_of {t : Ty} (h : typeOk t = true) : OkT 4 t := by
  simp only [typeOk, Bool.and_eq_true, decide_eq_true_eq] at h
  exact ⟨h.1.1, h.2⟩
structure OkF (f : FuncType) : Prop where
  par : ∀ p ∈ f.params, OkT 4 p.typ ∧ p.name.size ≤ 12
  res : OkT 4 f.result
  len : f.params.length ≤ 6
theorem okF_of {f : FuncType} (h : funcB f = true) : OkF f := by
  simp only [funcB, Bool.and_eq_true, decide_eq_true_eq] at h
  obtain ⟨h1, h2, h3, h4, h5⟩ := h
  rw [Bool.not_eq_true', List.any_eq_false] at h4
  refine ⟨fun p hp => ?_, okT_of h2, h1⟩
  have hb : parB p = true := by have := h4 p hp; simpa using this
  simp only [parB, Bool.and_eq_true] at hb
  exact ⟨okT_of hb.2.1, (nameOk_size hb.1).2⟩
theorem funcW_len {rec : Ty → Ty → ByteArray → Why} {a b : FuncType} {at_ : ByteArray} (h : ¬ a.params.length = b.params.length) : funcW rec a b at_ = some (7, at_) := if_neg h
theorem funcW_par {rec : Ty → Ty → ByteArray → Why} {a b : FuncType} {at_ : ByteArray} {r : Int × ByteArray} (h : a.params.length = b.params.length) (h1 : firstW (funcF rec at_ a.params b.params) a.params.length = some r) : funcW rec a b at_ = some r := by rw [funcW, if_pos h, h1]
theorem funcW_res {rec : Ty → Ty → ByteArray → Why} {a b : FuncType} {at_ : ByteArray} {r : Int × ByteArray} (h : a.params.length = b.params.length) (h1 : firstW (funcF rec at_ a.params b.params) a.params.length = none) (h2 : rec a.result b.result (at_ ++ ⟨#[45, 62]⟩) = some r) : funcW rec a b at_ = some r := by rw [funcW, if_pos h, h1, h2]
theorem funcW_end {rec : Ty → Ty → ByteArray → Why} {a b : FuncType} {at_ : ByteArray} (h : a.params.length = b.params.length) (h1 : firstW (funcF rec at_ a.params b.params) a.params.length = none) (h2 : rec a.result b.result (at_ ++ ⟨#[45, 62]⟩) = none) : funcW rec a b at_ = if a.async = true ∧ b.async = false then some (8, at_) else none := by rw [funcW, if_pos h, h1, h2]
/-- a function that looks for a reason between two function types -/
def FuncC (fid : Nat) : Prop := ∀ (a b : FuncType) (at_ : ByteArray) (B : Nat) (cs ds : List Value) (w : World), B ≤ w.heap.size → TabP w → OkF a → OkF b → at_.size ≤ 900000 → RepC w B (FuncType.pd a) cs → RepC w B (FuncType.pd b) ds →
  Calls Tryz.prog fid #[.agg cs.toArray, .agg ds.toArray, .string at_] w fun e w' => WQ (funcW (whyT 4) a b at_) w e w'
/-- what the exported functions answer -/
def whyFuncR (a b : FuncType) : Why := if funcB a && funcB b then funcW (whyT 4) a b ⟨#[]⟩ else none
end Go.Proofs.YtbafphecjijdmaaGreatDoor

