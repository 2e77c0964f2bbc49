/-
  spec.l03Shape and impl.shapeOk: what one type's own fields say (by program: gen_shape.py).
-/
import Derived.Test.YtbafphecjijdmaaGreatDoorTyLab
import Derived.Deep.RegionHeld3
namespace Go.Proofs.YtbafphecjijdmaaGreatDoor
open Go.RowKit
set_option linter.unusedVariables false
set_option linter.unusedSimpArgs false
set_option linter.unnecessarySimpa false

theorem str_empty {s : ByteArray} (h : s.size = 0) : s = { data := #[] } := by
  cases s with
  | mk d => congr; exact Array.eq_empty_of_size_eq_zero h
theorem str_full {s : ByteArray} (h : ¬ s.size = 0) : s.toList.isEmpty = false := by
  rw [ByteArray.toList_eq]
  cases s with
  | mk d => 
    rw [List.isEmpty_eq_false_iff]
    intro e
    apply h
    have : d = #[] := by simpa using e
    rw [this]
    rfl
theorem str_full2 {s : ByteArray} (h : ¬ s.size = 0) : s.toList ≠ [] := by
  have := str_full h
  rwa [List.isEmpty_eq_false_iff] at this
/-- kinds that are neither named nor labelled -/
structure Plain (kind : Int) : Prop where
  n20 : (kind == 20) = false
  n21 : (kind == 21) = false
  lab : inB kind 16 19 = false
theorem kind_cases (kind : Int) : (kind = 20 ∨ kind = 21) ∨ (kind = 16 ∨ kind = 17 ∨ kind = 18 ∨ kind = 19) ∨ Plain kind := by
  by_cases h1 : kind = 20 ∨ kind = 21
  · exact .inl h1
  by_cases h2 : kind = 16 ∨ kind = 17 ∨ kind = 18 ∨ kind = 19
  · exact .inr (.inl h2)
  · exact .inr (.inr ⟨by simp; omega, by simp; omega, inB_no.2 (by omega)⟩)
theorem plain_cases (kind : Int) : kind = 12 ∨ kind = 13 ∨ kind = 22 ∨ kind = 23 ∨ kind = 14 ∨ kind = 15 ∨ ((kind == 12) = false ∧ (kind == 13) = false ∧ (kind == 22) = false ∧ (kind == 23) = false ∧ (kind == 14) = false ∧ (kind == 15) = false) := by
  by_cases h : kind = 12 ∨ kind = 13 ∨ kind = 22 ∨ kind = 23 ∨ kind = 14 ∨ kind = 15
  · rcases h with h | h | h | h | h | h <;> simp [h]
  · refine .inr (.inr (.inr (.inr (.inr (.inr ?_)))))
    simp
    omega
theorem shape1_eq (kind : Int) (name : ByteArray) (labels : List ByteArray) (kids : List Ty) : shape1 ⟨kind, name, labels, kids⟩ =
    ((if named kind then nameOk name else decide (name.size = 0)) && (if inB kind 16 19 then labelsOk labels else decide (labels.length = 0)) && kidsRight kind labels.length kids) := rfl
theorem labelsOk_nil {ls : List ByteArray} (h : ls.length = 0) : labelsOk ls = false := by rw [labelsOk, h]; rfl
theorem nameOk_nil {s : ByteArray} (h : s.size = 0) : nameOk s = false := by
  cases e : nameOk s
  · rfl
  · exact absurd (nameOk_size e).1 (by omega)
/-- what a type's fields read as, opened -/
structure TyIn (B n n' c c' : Nat) (A A' : Option Addr) (name : ByteArray) (labels : List ByteArray) (kids : List Ty) (w : World) : Prop where
  hB : B ≤ w.heap.size
  hn : n ≤ 9223372036854775807
  hn' : n' ≤ 9223372036854775807
  HN : n = kids.length
  HN' : n' = labels.length
  HS1 : name.size ≤ maxLen
  HS2 : ∀ s ∈ labels, s.size ≤ maxLen
  RL : Rep w B (.row 1 (labels.flatMap strC)) (.slice A' n' c')
  RK : Rep w B (.row 4 (kids.flatMap Ty.pd)) (.slice A n c)
theorem TyIn.c {B n n' c c' : Nat} {A A' : Option Addr} {name : ByteArray} {labels : List ByteArray} {kids : List Ty} {w w' : World} {kind : Int} (h : TyIn B n n' c c' A A' name labels kids w) (hb : Below w.heap.size w w') :
    B ≤ w'.heap.size ∧ RepC w' B (Ty.pd ⟨kind, name, labels, kids⟩) [.int .i64 kind, .string name, .slice A' n' c', .slice A n c] :=
  ⟨Nat.le_trans h.hB hb.size, Ty.close_ (h.RL.below (hb.mono h.hB)) (h.RK.below (hb.mono h.hB))⟩
theorem rep_row_at {α : Type} {f : α → List PD} {sz : Nat} {w : World} {B n c : Nat} {A : Option Addr} {ts : List α} (hf : ∀ t, (f t).length = sz) (hsz : 0 < sz) (h : Rep w B (.row sz (ts.flatMap f)) (.slice A n c)) :
    0 < n → ∃ g off, A = some ⟨g, off, none⟩ ∧ g < B ∧ ∀ (k j : Nat) (t : α) (x : PD), ts[k]? = some t → (f t)[j]? = some x → ∃ u, w.cell? ⟨g, off + (k * sz + j), none⟩ = some u ∧ Rep w B x u := by
  obtain ⟨A', n', c', he, h1, h2, h3⟩ := rep_row hf hsz h
  injection he with e1 e2 e3
  intro h0
  rw [e1]
  exact h3 (by omega)
theorem TyIn.l {B n n' c c' : Nat} {A A' : Option Addr} {name : ByteArray} {labels : List ByteArray} {kids : List Ty} {w w' : World} (h : TyIn B n n' c c' A A' name labels kids w) (hb : Below w.heap.size w w') : Rep w' B (.row 1 (labels.flatMap strC)) (.slice A' n' c') := h.RL.below (hb.mono h.hB)
theorem TyIn.k {B n n' c c' : Nat} {A A' : Option Addr} {name : ByteArray} {labels : List ByteArray} {kids : List Ty} {w w' : World} (h : TyIn B n n' c c' A A' name labels kids w) (hb : Below w.heap.size w w') : Rep w' B (.row 4 (kids.flatMap Ty.pd)) (.slice A n c) := h.RK.below (hb.mono h.hB)

theorem sizeT_n {ts : List Ty} {v : Value} {B n : Nat} {w : World} (hn : n = ts.length) (h : Rep w B (.row 4 (ts.flatMap Ty.pd)) v) :
    Calls Tryz.prog 142 #[v] w fun e w' => e = .returned (.int .i64 n) ∧ w' = w := by
  rw [hn]
  exact (sizeT_any h).mono fun e w' q => ⟨q.1, q.2.symm⟩
theorem within_v {a b c : Int} {v : Bool} {w : World} (h : inB a b c = v) :
    Calls Tryz.prog 128 #[.int .i64 a, .int .i64 b, .int .i64 c] w fun e w' => e = .returned (.bool v) ∧ w' = w := by
  rw [← h]
  exact (within_any _ _ _ _).mono fun e w' q => ⟨q.1, q.2.symm⟩
def ShapesK (t : Ty) : Prop := ∀ (B : Nat) (cs : List Value) (w : World), B ≤ w.heap.size → PD.wfL (Ty.pd t) → RepC w B (Ty.pd t) cs →
  Calls Tryz.prog 113 #[.agg cs.toArray] w fun e w' => e = .returned (.bool t.shapes) ∧ Below w.heap.size w w'
theorem shape1_enter (a : Array Value) (W : World) : Sem.run Tryz.prog (callFunc 139 a) W = .ok (.enter 139 a) W := by kernel_rfl
theorem shapesL_of {kids : List Ty} (h : (kids.any fun t => !t.shapes) = false) : Ty.shapesL kids = true := by
  rw [shapesL_eq, List.all_eq_true]
  intro x hx
  have := List.any_eq_false.1 h x hx
  simpa using this
theorem rep_one21 {w : World} {b : Nat} (hc : w.cell? ⟨b, 0, none⟩ = some (.int .i64 21)) (hb : b < w.heap.size) : Rep w w.heap.size (.row 1 ([21].flatMap intC)) (.slice (some ⟨b, 0, none⟩) 1 1) := by
  rw [Rep]
  refine ⟨_, 1, 1, rfl, rfl, by decide, fun _ => ⟨b, 0, rfl, hb, ?_⟩⟩
  show RepL w w.heap.size b 0 [.lit (.int .i64 21)]
  rw [RepL, RepL]
  exact ⟨⟨_, hc, by rw [Rep]⟩, trivial⟩
theorem shapeCl_any {t : Ty} (ih : ShapesK t) {B : Nat} {cs : List Value} {w : World} (hB : B ≤ w.heap.size) (hwf : PD.wfL (Ty.pd t)) (h : RepC w B (Ty.pd t) cs) :
    Calls Tryz.prog 139 (#[.agg cs.toArray] ++ #[]) w fun e w' => e = .returned (.bool (!t.shapes)) ∧ Below w.heap.size w w' := by
  obtain ⟨kind, name, labels, kids⟩ := t
  obtain ⟨labelsV, kidsV, rfl, r_labels, r_kids⟩ := Ty.open_ h
  have R_labels := Lib.hid r_labels
  clear r_labels
  have R_kids := Lib.hid r_kids
  clear r_kids
  have IH := Lib.hid ih
  have HW := Lib.hid hwf
  clear ih h hwf
  go_enter Tryz.func139, Tryz.ntmps139
  go_wp2_with fail
  obtain ⟨w0, hw0⟩ : ∃ W, W = w.alloc (.cells #[.int .i64 kind, .string name, labelsV, kidsV] 60) := ⟨_, rfl⟩
  rw [← hw0]
  have bA : Blk w0 w.heap.size 60 #[.int .i64 kind, .string name, labelsV, kidsV] := by rw [hw0]; exact Blk.new w _ _
  have hB0 : Below w.heap.size w w0 := by rw [hw0]; exact (Below.refl _ _).alloc (Nat.le_refl _) _
  clear hw0
  refine (IH.out B [.int .i64 kind, .string name, labelsV, kidsV] w0 (by have := hB0.size; omega) HW.out (Ty.close_ (R_labels.out.below (hB0.mono hB)) (R_kids.out.below (hB0.mono hB)))).mono ?_
  rintro e w1 ⟨rfl, hb1⟩
  obtain ⟨r, hr⟩ : ∃ r, r = (Ty.mk kind name labels kids).shapes := ⟨_, rfl⟩
  have HR := Lib.hid hr
  rw [← hr]
  clear hr
  go_wp2_with fail
  go_ret
  exact ⟨ret_bool (by rw [HR.out]), hB0.trans (hb1.mono hB0.size)⟩
end Go.Proofs.YtbafphecjijdmaaGreatDoor

