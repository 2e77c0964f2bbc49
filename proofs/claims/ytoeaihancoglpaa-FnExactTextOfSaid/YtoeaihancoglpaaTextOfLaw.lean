/-
  FnExactTextOf: the law's walk, by program (lawgen.py).
-/
import Derived.Test.YtoeaihancoglpaaTextOf
namespace Go.Proofs.Ytoeaihancoglpaa
open Go.RowKit
set_option linter.unusedVariables false

theorem specTextOf_V {w : World} {B : Nat} {v : Value} {xs : List Int} (hB : B ≤ w.heap.size) (h : IsI w B v xs) :
    Calls Try.prog 34 #[v] w fun e w' => e = .returned (.tuple #[.string (textStr xs), .bool (textOk xs)]) ∧ Below w.heap.size w w' := by
  obtain ⟨A, n, c, rfl, hn, hr⟩ := h
  exact specTextOf_any A n c B xs w hB hn hr
theorem implTextOf_V {w : World} {B : Nat} {v : Value} {xs : List Int} (hB : B ≤ w.heap.size) (h : IsI w B v xs) :
    Calls Try.prog 35 #[v] w fun e w' => e = .returned (.tuple #[.string (textStr xs), .bool (textOk xs)]) ∧ Below w.heap.size w w' := by
  obtain ⟨A, n, c, rfl, hn, hr⟩ := h
  exact implTextOf_any A n c B xs w hB hn hr
set_option maxHeartbeats 1600000 in
theorem walk_FnExactTextOf (w : World) (v0 : Value) (h : ArgI w v0) :
    Calls Try.prog 11 #[v0] w fun e w' => e = .returned (.bool true) ∧ Below w.heap.size w w' := by
  obtain ⟨A, n, c, xs, rfl, hnx, hm, A0⟩ := h.is
  unfold maxLen at hm
  clear h
  have HN := Lib.hid hnx
  clear hnx
  by_cases hn : (1048576 : Int) < n
  · clear A0
    go_enter Try.func11, Try.ntmps11
    go_wp2_with fail
    go_ret
    exact ⟨rfl, Below.refl _ _⟩
  have hsz0 : xs.length ≤ 1048576 := by have := HN.out; omega
  have hnb : (textOk xs != textOk xs) = false := by simp
  go_enter Try.func11, Try.ntmps11
  go_wp2_with fail
  refine (toI_V (B := w.heap.size) (by omega) hsz0 (A0.below (Below.refl _ w))).mono ?_
  rintro e w1 ⟨us0, rfl, Ls0, hb1⟩
  have hs1 := hb1.size
  have hB1 := hb1
  go_wp2_with fail
  refine (specTextOf_V (Nat.le_refl _) Ls0.is).mono ?_
  rintro e w2 ⟨rfl, hb2⟩
  have hs2 := hb2.size
  have hB2 := hB1.trans (hb2.mono hB1.size)
  replace Ls0 := Ls0.step hb2
  go_wp2_with fail
  refine (toI_V (B := w.heap.size) (by omega) hsz0 (A0.below hB2)).mono ?_
  rintro e w3 ⟨ux0, rfl, Lx0, hb3⟩
  have hs3 := hb3.size
  have hB3 := hB2.trans (hb3.mono hB2.size)
  go_wp2_with fail
  refine (implTextOf_V (Nat.le_refl _) Lx0.is).mono ?_
  rintro e w4 ⟨rfl, hb4⟩
  have hs4 := hb4.size
  have hB4 := hB3.trans (hb4.mono hB3.size)
  replace Lx0 := Lx0.step hb4
  go_wp2_with fail
  refine (toI_V (B := w.heap.size) (by omega) hsz0 (A0.below hB4)).mono ?_
  rintro e w5 ⟨uy0, rfl, Ly0, hb5⟩
  have hs5 := hb5.size
  have hB5 := hB4.trans (hb5.mono hB4.size)
  replace Lx0 := Lx0.step hb5
  go_wp2_with fail
  refine (eqI_V Lx0.is Ly0.is).mono ?_
  rintro e w6 ⟨rfl, hb6⟩
  have hs6 := hb6.size
  have hB6 := hB5.trans (hb6.mono hB5.size)
  replace Lx0 := Lx0.step hb6
  replace Ly0 := Ly0.step hb6
  rw [decide_eq_true (rfl : xs = _)]
  go_wp2_with fail
  go_ret
  exact ⟨rfl, hB6⟩

end Go.Proofs.Ytoeaihancoglpaa
