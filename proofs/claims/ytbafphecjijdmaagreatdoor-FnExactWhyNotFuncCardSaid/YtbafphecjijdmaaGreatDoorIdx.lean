/-
  The place of the first element that a test takes, or -1. No program in sight.
-/
import Derived.Test.YtbafphecjijdmaaGreatDoorBase
namespace Go.Proofs.YtbafphecjijdmaaGreatDoor
set_option linter.unusedVariables false
set_option linter.unusedSimpArgs false
set_option linter.unnecessarySimpa false
theorem str_ne2 {s t : ByteArray} (h : ¬ s = t) : (s.toList == t.toList) = false := by
  rw [beq_eq_false_iff_ne]
  intro e
  rw [ByteArray.toList_eq, ByteArray.toList_eq] at e
  exact h (by cases s; cases t; congr; exact Array.toList_inj.1 e)
section
variable {α : Type}
def idxP (p : α → Bool) : List α → Int
  | [] => -1
  | t :: r => if p t then 0 else (let i := idxP p r; if i < 0 then -1 else i + 1)
theorem idxP_lo (p : α → Bool) : ∀ ts : List α, -1 ≤ idxP p ts
  | [] => by simp [idxP]
  | t :: r => by
    have := idxP_lo p r
    rw [idxP]
    split
    · omega
    · dsimp only
      split <;> omega
theorem idxP_any (p : α → Bool) : ∀ ts : List α, decide (0 ≤ idxP p ts) = ts.any p
  | [] => by simp [idxP]
  | t :: r => by
    have ih := idxP_any p r
    rw [idxP, List.any_cons]
    cases ht : p t
    · simp only [Bool.false_eq_true, if_false, Bool.false_or]
      rw [← ih]
      by_cases h : idxP p r < 0
      · simp [h] <;> omega
      · simp [h] <;> omega
    · simp
theorem idxP_none {p : α → Bool} {ts : List α} (h : ∀ (j : Nat) (t : α), ts[j]? = some t → p t = false) : idxP p ts = -1 := by
  induction ts with
  | nil => rfl
  | cons t r ih =>
    have h0 := h 0 t (by simp)
    rw [idxP, h0, ih fun j x hx => h (j + 1) x (by simpa using hx)]
    simp
theorem idxP_hit {p : α → Bool} {ts : List α} {k : Nat} {t : α} (hp : ∀ (j : Nat) (t : α), j < k → ts[j]? = some t → p t = false) (hx : ts[k]? = some t) (hb : p t = true) : idxP p ts = (k : Int) := by
  induction ts generalizing k with
  | nil => simp at hx
  | cons x r ih =>
    cases k with
    | zero =>
      simp at hx
      subst hx
      rw [idxP, hb]
      simp
    | succ k =>
      have h0 := hp 0 x (by omega) (by simp)
      have := ih (k := k) (fun j y hj hy => hp (j + 1) y (by omega) (by simpa using hy)) (by simpa using hx)
      rw [idxP, h0, this]
      simp
      omega
theorem pre_next {p : α → Bool} {ts : List α} {k : Nat} {t : α} (hp : ∀ (j : Nat) (t : α), j < k → ts[j]? = some t → p t = false) (hx : ts[k]? = some t) (hb : p t = false) : ∀ (j : Nat) (t : α), j < k + 1 → ts[j]? = some t → p t = false := by
  intro j y hj hy
  by_cases e : j = k
  · subst e
    rw [hx] at hy
    injection hy with hy
    rw [← hy]; exact hb
  · exact hp j y (by omega) hy
theorem any_hit {p : α → Bool} {ts : List α} {k : Nat} {t : α} (hx : ts[k]? = some t) (hb : p t = true) : ts.any p = true := List.any_eq_true.2 ⟨t, List.mem_of_getElem? hx, hb⟩
theorem any_none {p : α → Bool} {ts : List α} {n : Nat} (hn : ts.length ≤ n) (hp : ∀ (j : Nat) (t : α), j < n → ts[j]? = some t → p t = false) : ts.any p = false := List.any_eq_false.2 fun x hx => by
  obtain ⟨j, hj, rfl⟩ := List.getElem_of_mem hx
  simp [hp j _ (by omega) (List.getElem?_eq_getElem hj)]
theorem all_of {p : α → Bool} {ts : List α} {n : Nat} (hn : ts.length ≤ n) (hp : ∀ (j : Nat) (t : α), j < n → ts[j]? = some t → (fun t => !p t) t = false) : ts.all p = true := List.all_eq_true.2 fun x hx => by
  obtain ⟨j, hj, rfl⟩ := List.getElem_of_mem hx
  have := hp j _ (by omega) (List.getElem?_eq_getElem hj)
  simpa using this
theorem all_hit {p : α → Bool} {ts : List α} {k : Nat} {t : α} (hx : ts[k]? = some t) (hb : p t = false) : ts.all p = false := List.all_eq_false.2 ⟨t, List.mem_of_getElem? hx, by simp [hb]⟩
end
end Go.Proofs.YtbafphecjijdmaaGreatDoor
