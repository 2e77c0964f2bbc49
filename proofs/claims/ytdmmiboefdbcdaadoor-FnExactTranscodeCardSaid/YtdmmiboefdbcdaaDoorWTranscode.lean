/-
  FnExactTranscode: the law's walk (by program: lawgen2.py).
-/
import Derived.Test.YtdmmiboefdbcdaaDoorDecOk
namespace Go.Proofs.YtdmmiboefdbcdaaDoor
open Go.RowKit
set_option linter.unusedVariables false
set_option linter.unusedSimpArgs false
set_option linter.unnecessarySimpa false
set_option maxRecDepth 100000

set_option maxHeartbeats 6400000 in
theorem walk_FnExactTranscode (w : World) (hT : TabW w) (n : Int) (h_n : (Lit.int .i64 n).wf = true) (k : Int) (h_k : (Lit.int .i64 k).wf = true) (s : ByteArray) (h_s : s.size ≤ maxLen) :
    Calls Tryd.prog 7 #[.int .i64 n, .int .i64 k, .string s] w fun e w' => e = .returned (.bool true) ∧ Below w.heap.size w w' := by
  unfold maxLen at h_s
  by_cases hs_s : s.size ≤ 1048576
  case neg =>
    go_enter Tryd.func7, Tryd.ntmps7
    go_wp2_with fail
    go_ret
    exact ⟨rfl, Below.refl _ _⟩
  replace h_s := hs_s
  clear hs_s
  have SP := specTranscode_ok  n k s h_n h_k h_s
  have IM := implTranscode_ok  n k s h_n h_k h_s
  obtain ⟨r0, hrr⟩ : ∃ r : ByteArray, r = (traR n k s).1 := ⟨_, rfl⟩
  rw [← hrr] at SP IM
  clear hrr
  obtain ⟨r1, hrr⟩ : ∃ r : Int, r = (traR n k s).2 := ⟨_, rfl⟩
  rw [← hrr] at SP IM
  clear hrr
  have hne1 : (r1 != r1) = false := by simp
  have SP' := Lib.hid SP
  have IM' := Lib.hid IM
  clear SP IM
  go_enter Tryd.func7, Tryd.ntmps7
  go_wp2_with fail
  obtain ⟨w0, hw0⟩ : ∃ W, W = w := ⟨_, rfl⟩
  rw [← hw0]
  have hB0 : Below w.heap.size w w0 := by rw [hw0]; exact Below.refl _ _
  clear hw0
  have hs0 := hB0.size
  refine (SP'.out w0.heap.size  _ (Nat.le_refl _) (hT.below hB0)).mono ?_
  rintro e w1 ⟨rfl, hb1⟩
  have hs1 := hb1.size
  have hB1 := hB0.trans (hb1.mono hB0.size)
  go_wp2_with fail
  refine (IM'.out w1.heap.size  _ (Nat.le_refl _) (hT.below hB1)).mono ?_
  rintro e w2 ⟨rfl, hb2⟩
  have hs2 := hb2.size
  have hB2 := hB1.trans (hb2.mono hB1.size)
  go_wp2_with fail
  go_ret
  exact ⟨rfl, hB2⟩

end Go.Proofs.YtdmmiboefdbcdaaDoor
