/-
  FnExactOpWord: the law's walk (by program: lawgen2.py).
-/
import Derived.Test.YtnedcpoengcbaaaDoorWords
namespace Go.Proofs.YtnedcpoengcbaaaDoor
open Go.RowKit
set_option linter.unusedVariables false
set_option linter.unusedSimpArgs false
set_option linter.unnecessarySimpa false
set_option maxRecDepth 100000

set_option maxHeartbeats 6400000 in
theorem walk_FnExactOpWord (w : World) (hT : TabW w) (n : Int) (h_n : (Lit.int .i64 n).wf = true) :
    Calls Tryd.prog 3 #[.int .i64 n] w fun e w' => e = .returned (.bool true) ∧ Below w.heap.size w w' := by
  have SP := specOpWord_ok  n h_n
  have IM := implOpWord_ok  n h_n
  obtain ⟨r0, hrr⟩ : ∃ r : ByteArray, r = opWordR n := ⟨_, rfl⟩
  rw [← hrr] at SP IM
  clear hrr
  have SP' := Lib.hid SP
  have IM' := Lib.hid IM
  clear SP IM
  go_enter Tryd.func3, Tryd.ntmps3
  go_wp2_with fail
  obtain ⟨w0, hw0⟩ : ∃ W, W = w := ⟨_, rfl⟩
  rw [← hw0]
  have hB0 : Below w.heap.size w w0 := by rw [hw0]; exact Below.refl _ _
  clear hw0
  have hs0 := hB0.size
  refine (SP'.out w0.heap.size  _ (Nat.le_refl _) (hT.below hB0)).mono ?_
  rintro e w1 ⟨rfl, hb1⟩
  have hs1 := hb1.size
  have hB1 := hB0.trans (hb1.mono hB0.size)
  go_wp2_with fail
  refine (IM'.out w1.heap.size  _ (Nat.le_refl _) (hT.below hB1)).mono ?_
  rintro e w2 ⟨rfl, hb2⟩
  have hs2 := hb2.size
  have hB2 := hB1.trans (hb2.mono hB1.size)
  go_wp2_with fail
  go_ret
  exact ⟨rfl, hB2⟩

end Go.Proofs.YtnedcpoengcbaaaDoor
