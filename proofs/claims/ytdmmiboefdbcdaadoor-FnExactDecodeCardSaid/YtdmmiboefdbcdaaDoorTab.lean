/-
  The door: utf8.ValidString over this seat, its two tables out of the row's condition.
-/
import Derived.Test.YtdmmiboefdbcdaaDoorSmall
import Derived.Test.YtdmmiboefdbcdaaDoorUt
import Derived.Shelf.Unicode.ValidAny
import Derived.Lib.LaidU8T
import Derived.LaidMore
import Derived.MakeChecks
namespace Go.Proofs.YtdmmiboefdbcdaaDoor
open Go.RowKit Go.Shelf
set_option linter.unusedVariables false
set_option linter.unusedSimpArgs false
set_option linter.unnecessarySimpa false
set_option maxRecDepth 16000

def va_ren : Go.Shelf.Ren := ⟨fun
    | 196 => 35 | 259 => 48 | n => n, fun
    | 0 => 0 | 3 => 3 | 4 => 4 | 5 => 5 | 9 => 9 | 12 => 12 | 46 => 47 | 53 => 54 | 119 => 49 | 138 => 51 | 139 => 52 | n => n, fun
    | 3 => 0 | 4 => 1 | n => n⟩
set_option maxHeartbeats 2000000 in
theorem va_lays : Lays.n196 Tryd.prog va_ren where
  mixed := by kernel_rfl
  f196 := Tryd.func35.trans (congrArg some (by kernel_rfl))
  f259 := Tryd.func48.trans (congrArg some (by kernel_rfl))
  t0 := by kernel_rfl
  a0 := fun _ => by kernel_rfl
  z0 := fun _ => by kernel_rfl
  v0 := fun _ => by kernel_rfl
  t3 := by kernel_rfl
  a3 := fun _ => by kernel_rfl
  z3 := fun _ => by kernel_rfl
  v3 := fun _ => by kernel_rfl
  t4 := by kernel_rfl
  a4 := fun _ => by kernel_rfl
  z4 := fun _ => by kernel_rfl
  v4 := fun _ => by kernel_rfl
  t5 := by kernel_rfl
  a5 := fun _ => by kernel_rfl
  z5 := fun _ => by kernel_rfl
  v5 := fun _ => by kernel_rfl
  t9 := by kernel_rfl
  a9 := fun _ => by kernel_rfl
  z9 := fun _ => by kernel_rfl
  v9 := fun _ => by kernel_rfl
  t12 := by kernel_rfl
  a12 := fun _ => by kernel_rfl
  z12 := fun _ => by kernel_rfl
  v12 := fun _ => by kernel_rfl
  t46 := by kernel_rfl
  a46 := fun _ => by kernel_rfl
  z46 := fun _ => by kernel_rfl
  v46 := fun _ => by kernel_rfl
  t53 := by kernel_rfl
  a53 := fun _ => by kernel_rfl
  z53 := fun _ => by kernel_rfl
  v53 := fun _ => by kernel_rfl
  t119 := by kernel_rfl
  a119 := fun _ => by kernel_rfl
  z119 := fun _ => by kernel_rfl
  t138 := by kernel_rfl
  a138 := fun _ => by kernel_rfl
  z138 := fun _ => by kernel_rfl
  v138 := fun _ => by kernel_rfl
  t139 := by kernel_rfl
  a139 := fun _ => by kernel_rfl
  z139 := fun _ => by kernel_rfl
  v139 := fun _ => by kernel_rfl
  g3 := by kernel_rfl
  g4 := by kernel_rfl

/-- the two tables, here and in every later world of the call -/
def TabW (w : World) : Prop := 2 ≤ w.heap.size ∧ Lib.Utf8Tabs 0 1 w
theorem TabW.step {w w' : World} {B : Nat} (h : TabW w) (hb : Below B w w') (hB : 2 ≤ B) : TabW w' := by
  have hf : ∀ (g c : Nat), g < 2 → w'.cell? ⟨g, c, none⟩ = w.cell? ⟨g, c, none⟩ := fun g c hg => hb.cell (p := ⟨g, c, none⟩) (by show g < B; omega)
  refine ⟨Nat.le_trans h.1 hb.size, fun c hc => ?_, fun i hi => ⟨?_, ?_⟩⟩
  · rw [hf _ _ (by decide)]; exact h.2.1 c hc
  · rw [hf _ _ (by decide)]; exact (h.2.2 i hi).1
  · rw [hf _ _ (by decide)]; exact (h.2.2 i hi).2
theorem TabW.below {w w' : World} (h : TabW w) (hb : Below w.heap.size w w') : TabW w' := h.step hb h.1
theorem validString_any (s : ByteArray) (w : World) (hs : s.size ≤ maxLen) (hT : TabW w) :
    Calls Tryd.prog 35 #[.string s] w fun e w' => e = .returned (.bool (ptsQ (byt s)).isSome) ∧ Below w.heap.size w w' := by
  unfold maxLen at hs
  have := Any.utf8_ValidString va_lays s w (by omega) hT.2
  rw [valid_str] at this
  exact this
theorem first_data : Rows.laid_unicode_utf8_first = Lib.firstData := by kernel_rfl
theorem accept_data : (Rows.laid_unicode_utf8_acceptRanges : DataW Unit) = Lib.acceptData := by kernel_rfl
def laidTabs : List (String × DataW Unit) := [("unicode/utf8.acceptRanges", Rows.laid_unicode_utf8_acceptRanges), ("unicode/utf8.first", Rows.laid_unicode_utf8_first)]
theorem tabW_of {w : World} (h : laidMetH Tryd.prog laidTabs w) : TabW w := by
  rw [MakeChecks.laidMetH_plain _ _ _ (by kernel_rfl)] at h
  have h1 := Lib.laidMet.reads h (.head _)
  have h2 := Lib.laidMet.reads h (.tail _ (.head _))
  rw [accept_data] at h1
  rw [first_data] at h2
  have ht := utf8Tabs_of_readsT (U8Types.of196 va_lays) ⟨by kernel_rfl, by kernel_rfl, by kernel_rfl, by kernel_rfl, by kernel_rfl, by kernel_rfl, by kernel_rfl⟩ h2 h1
  refine ⟨?_, ht⟩
  have hc := ht.1 0 (by decide)
  have hd := (ht.2 0 (by decide)).1
  have l1 := World.block_lt_of_cell? w _ hc
  have l2 := World.block_lt_of_cell? w _ hd
  have e1 : va_ren.g 3 = 0 ∨ va_ren.g 3 = 1 := by first | exact .inl rfl | exact .inr rfl
  have e2 : va_ren.g 4 = 0 ∨ va_ren.g 4 = 1 := by first | exact .inl rfl | exact .inr rfl
  have e3 : va_ren.g 3 ≠ va_ren.g 4 := by decide
  simp only at l1 l2
  omega
end Go.Proofs.YtdmmiboefdbcdaaDoor

