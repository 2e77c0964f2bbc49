/-
  Release: the plain law (put = give where the block touches no free one within).
-/
import Derived.Test.YtlppngpafjfjeaaPutA
namespace Go.Proofs.Ytlppngpafjfjeaa
open Go.RowKit
set_option linter.unusedVariables false
set_option linter.unusedSimpArgs false
set_option linter.unnecessarySimpa false
set_option maxRecDepth 16000

theorem put2_give (fs : List Block) (k : Nat) (b : Block) : [(putB2 fs k b).1] ++ fs.drop (putB2 fs k b).2 = giveN (fs.drop k) b := by
  cases h : fs[k]? with
  | none =>
    have hd : fs.drop k = [] := List.drop_of_length_le (by simpa using h)
    have e : putB2 fs k b = (b, k) := by rw [putB2, h]
    rw [e]
    simp only [hd]
    rfl
  | some y =>
    rw [drop_cons h]
    by_cases he : b.at_ + b.size = y.at_
    · have e : putB2 fs k b = (⟨b.at_, b.size + y.size⟩, k + 1) := by rw [putB2, h]; exact if_pos he
      rw [e, giveN, if_pos he.symm]
      rfl
    · have e : putB2 fs k b = (b, k) := by rw [putB2, h]; exact if_neg he
      rw [e, giveN, if_neg (fun h2 => he h2.symm)]
      simp only [drop_cons h]
      rfl
theorem giveM_no {l : List Block} {b : Block} (h : ∀ x : Block, l[0]? = some x → ¬ x.at_ + x.size = b.at_) : giveM l b = giveN l b := by
  cases l with
  | nil => rfl
  | cons x r => rw [giveM, if_neg (h x rfl)]
theorem put_give_any {fs : List Block} {b : Block} {k : Nat} (hk : FirstAt fs b.at_ k) (hord : ∀ (j k : Nat) (x y : Block), j < k → fs[j]? = some x → fs[k]? = some y → x.at_ + x.size < y.at_) (hpos : ∀ x ∈ fs, 0 < x.size) (hb : 0 < b.size)
    (hno : ∀ x ∈ fs, x.at_ + x.size ≤ b.at_ ∨ b.at_ + b.size ≤ x.at_) : putAt fs k b = giveL fs b := by
  obtain ⟨h1, h2, h3⟩ := hk
  have hA : ∀ x : Block, fs[k]? = some x → ¬ x.at_ + x.size < b.at_ ∧ ¬ x.at_ + x.size = b.at_ := fun x hx => by
    have := h3 x hx
    have := hpos x (List.mem_of_getElem? hx)
    omega
  rw [putAt, List.append_assoc, put2_give]
  cases k with
  | zero =>
    have e1 : putB1 fs 0 b = (0, b) := rfl
    rw [e1, giveL_at 0 (Nat.zero_le _) (fun j x hj => absurd hj (by omega)) (fun x hx => (hA x hx).1), giveM_no (fun x hx => (hA x (by simpa using hx)).2)]
  | succ m =>
    have hm : m < fs.length := by omega
    obtain ⟨y, hy⟩ : ∃ y, fs[m]? = some y := ⟨_, List.getElem?_eq_getElem hm⟩
    have hym : y ∈ fs := List.mem_of_getElem? hy
    have hyb := h2 m y (Nat.lt_succ_self _) hy
    have hyp := hpos y hym
    have hye := hno y hym
    by_cases he : y.at_ + y.size = b.at_
    · have e1 : putB1 fs (m + 1) b = (m, ⟨y.at_, y.size + b.size⟩) := by
        rw [putB1, if_neg (by omega), Nat.add_sub_cancel, hy]; exact if_pos he
      rw [e1, giveL_at m (by omega) (fun j x hj hx => by have := hord j m x y hj hx hy; omega) (fun x hx => by rw [hy] at hx; cases hx; omega), drop_cons hy, giveM, if_pos he]
    · have e1 : putB1 fs (m + 1) b = (m + 1, b) := by
        rw [putB1, if_neg (by omega), Nat.add_sub_cancel, hy]; exact if_neg he
      rw [e1, giveL_at (m + 1) (by omega) (fun j x hj hx => by
        rcases Nat.lt_succ_iff_lt_or_eq.1 hj with h | rfl
        · have := hord j m x y h hx hy; omega
        · rw [hy] at hx; cases hx; omega) (fun x hx => (hA x hx).1), giveM_no (fun x hx => (hA x (by simpa using hx)).2)]
/-- one of the bytes from place a on, n of them, is free -/
def freeAt (fs : List Block) (a n : Int) : Bool := fs.any fun b => decide (b.at_ < a + n) && decide (a < b.at_ + b.size)
theorem freeAt_no {fs : List Block} {a n : Int} (h : freeAt fs a n = false) : ∀ x ∈ fs, x.at_ + x.size ≤ a ∨ a + n ≤ x.at_ := fun x hx => by
  have := List.any_eq_false.1 h x hx
  simp only [Bool.and_eq_true, decide_eq_true_eq, not_and, Int.not_lt] at this
  omega
def memRel (m : Memory) (a n : Int) : Memory × Int :=
  if memOk m.bytes m.free = true then (if n = 0 then (m, 0) else if 8 ≤ a ∧ 0 ≤ n ∧ a ≤ m.bytes.size ∧ n ≤ m.bytes.size - a ∧ freeAt m.free a n = false then (⟨m.bytes, giveL m.free ⟨a, n⟩⟩, 0) else (⟨⟨#[]⟩, []⟩, 10)) else (⟨⟨#[]⟩, []⟩, 1)
end Go.Proofs.Ytlppngpafjfjeaa

