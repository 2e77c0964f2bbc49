/-
  FnExactPointsOf: the law's walk (by program: lawgen2.py).
-/
import Derived.Test.YtdmmiboefdbcdaaDoorArg
import Derived.Test.YtdmmiboefdbcdaaDoorSz
import Derived.Test.YtdmmiboefdbcdaaDoorTo
import Derived.Test.YtdmmiboefdbcdaaDoorEq
import Derived.Test.YtdmmiboefdbcdaaDoorMk
import Derived.Test.YtdmmiboefdbcdaaDoorHd
import Derived.Test.YtdmmiboefdbcdaaDoorPtsOk
namespace Go.Proofs.YtdmmiboefdbcdaaDoor
open Go.RowKit
set_option linter.unusedVariables false
set_option linter.unusedSimpArgs false
set_option linter.unnecessarySimpa false
set_option maxRecDepth 100000

set_option maxHeartbeats 6400000 in
theorem walk_FnExactPointsOf (w : World) (hT : TabW w) (s : ByteArray) (h_s : s.size ≤ maxLen) :
    Calls Tryd.prog 3 #[.string s] w fun e w' => e = .returned (.bool true) ∧ Below w.heap.size w w' := by
  unfold maxLen at h_s
  by_cases hs_s : s.size ≤ 1048576
  case neg =>
    go_enter Tryd.func3, Tryd.ntmps3
    go_wp2_with fail
    go_ret
    exact ⟨rfl, Below.refl _ _⟩
  replace h_s := hs_s
  clear hs_s
  have SP := specPointsOf_ok  s h_s
  have IM := implPointsOf_ok  s h_s
  obtain ⟨rs, hrr⟩ : ∃ r : List Int, r = ptsL s := ⟨_, rfl⟩
  have hrb := ptsL_cnt s
  rw [← hrr] at SP IM hrb
  clear hrr
  obtain ⟨r1, hrr⟩ : ∃ r : Bool, r = ptsB s := ⟨_, rfl⟩
  rw [← hrr] at SP IM
  clear hrr
  have hne1 : (r1 != r1) = false := by simp
  obtain ⟨m, hm⟩ : ∃ m : Nat, m = PD.cnt (PD.row 1 (rs.flatMap intC)) := ⟨_, rfl⟩
  rw [← hm] at hrb
  have M := Lib.hid hm
  clear hm
  have SP' := Lib.hid SP
  have IM' := Lib.hid IM
  clear SP IM
  go_enter Tryd.func3, Tryd.ntmps3
  go_wp2_with fail
  obtain ⟨w0, hw0⟩ : ∃ W, W = w := ⟨_, rfl⟩
  rw [← hw0]
  have hB0 : Below w.heap.size w w0 := by rw [hw0]; exact Below.refl _ _
  clear hw0
  have hs0 := hB0.size
  refine (SP'.out w0.heap.size  _ (Nat.le_refl _) (hT.below hB0)).mono ?_
  rintro e w1 ⟨vw, rfl, Gw, hb1⟩
  have hs1 := hb1.size
  have hB1 := hB0.trans (hb1.mono hB0.size)
  obtain ⟨Aw, nw, cw, rfl⟩ := Gw.form
  go_wp2_with fail
  refine (IM'.out w1.heap.size  _ (Nat.le_refl _) (hT.below hB1)).mono ?_
  rintro e w2 ⟨vg, rfl, Gg, hb2⟩
  have hs2 := hb2.size
  have hB2 := hB1.trans (hb2.mono hB1.size)
  replace Gw := Gw.step hb2
  obtain ⟨Ag, ng, cg, rfl⟩ := Gg.form
  go_wp2_with fail
  refine (eqInt64S_all rs w2.heap.size _ _ _ (Nat.le_refl _) Gg.is Gw.is).mono ?_
  rintro e w3 ⟨rfl, hb3⟩
  have hs3 := hb3.size
  have hB3 := hB2.trans (hb3.mono hB2.size)
  replace Gw := Gw.step hb3
  replace Gg := Gg.step hb3
  go_wp2_with fail
  obtain ⟨Fg, hg1, hg2, hg3⟩ := Gg
  refine (markInt64S_all rs (.slice Ag ng cg) Fg _ 1 (by omega) (by rw [← M.out]; omega) hg1 hg2.1 (fun b hb => Nat.lt_of_lt_of_le (hg2.2 b hb).2 hg3)).mono ?_
  rintro e w4 ⟨rfl, hgm, kf⟩
  rw [← M.out]
  have hs4 := kf.size
  have kk : Keep _ _ w3 w4 := kf.keep hg2.2
  have hB4 := hB3.trans ((kk.below (by omega)).mono (by omega))
  replace Gw := Gw.kept kk (by omega)
  have Gm : Lv w4 _ _ ((PD.row 1 (rs.flatMap intC)).mark 1) (.slice Ag ng cg) := ⟨Fg, hgm, hg2, Nat.le_trans hg3 kf.size⟩
  clear kf kk hg1 hg2 hg3 hgm
  have hk1 : ¬ (1 + (m : Int)) < 0 := by omega
  have hqm : ((1 + (m : Int)) != (1 + (m : Int))) = false := by simp
  go_wp2_with fail
  refine (heldInt64S_all rs w4.heap.size _ _ 1 (by omega) (by rw [← M.out]; omega) (Nat.le_refl _) Gm.is).mono ?_
  rintro e w5 ⟨rfl, hb5⟩
  have hs5 := hb5.size
  have hB5 := hB4.trans (hb5.mono hB4.size)
  replace Gw := Gw.step hb5
  replace Gm := Gm.step hb5
  rw [← M.out]
  go_wp2_with fail
  refine (IM'.out w5.heap.size  _ (Nat.le_refl _) (hT.below hB5)).mono ?_
  rintro e w6 ⟨vh, rfl, Gh, hb6⟩
  have hs6 := hb6.size
  have hB6 := hB5.trans (hb6.mono hB5.size)
  replace Gw := Gw.step hb6
  replace Gm := Gm.step hb6
  obtain ⟨Ah, nh, ch, rfl⟩ := Gh.form
  go_wp2_with fail
  refine (eqInt64S_all rs w6.heap.size _ _ _ (Nat.le_refl _) Gh.is Gw.is).mono ?_
  rintro e w7 ⟨rfl, hb7⟩
  have hs7 := hb7.size
  have hB7 := hB6.trans (hb7.mono hB6.size)
  replace Gw := Gw.step hb7
  replace Gm := Gm.step hb7
  replace Gh := Gh.step hb7
  go_wp2_with fail
  refine (heldInt64S_all rs w7.heap.size _ _ 1 (by omega) (by rw [← M.out]; omega) (Nat.le_refl _) Gm.is).mono ?_
  rintro e w8 ⟨rfl, hb8⟩
  have hs8 := hb8.size
  have hB8 := hB7.trans (hb8.mono hB7.size)
  replace Gw := Gw.step hb8
  replace Gm := Gm.step hb8
  replace Gh := Gh.step hb8
  rw [← M.out]
  go_wp2_with fail
  go_ret
  exact ⟨rfl, hB8⟩

end Go.Proofs.YtdmmiboefdbcdaaDoor
