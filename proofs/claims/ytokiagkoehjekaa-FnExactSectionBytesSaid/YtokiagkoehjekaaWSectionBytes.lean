/-
  FnExactSectionBytes: the law's walk (by program: lawgen2.py).
-/
import Derived.Test.YtokiagkoehjekaaArg
import Derived.Test.YtokiagkoehjekaaSz
import Derived.Test.YtokiagkoehjekaaTo
import Derived.Test.YtokiagkoehjekaaEq
import Derived.Test.YtokiagkoehjekaaSecB
namespace Go.Proofs.Ytokiagkoehjekaa
open Go.RowKit
set_option linter.unusedVariables false
set_option linter.unusedSimpArgs false
set_option linter.unnecessarySimpa false
set_option maxRecDepth 100000

set_option maxHeartbeats 3200000 in
theorem walk_FnExactSectionBytes (w : World) (v0 : Value) (h : ArgSectionS w v0) :
    Calls Try.prog 4 #[v0] w fun e w' => e = .returned (.bool true) ∧ Below w.heap.size w w' := by
  obtain ⟨ts, hwf, hr⟩ := h
  obtain ⟨A, n, c, rfl⟩ := hr.form
  have WF := Lib.hid hwf
  have R0 := Lib.hid hr
  clear hwf hr
  obtain ⟨z, hz⟩ : ∃ z : Nat, z = (PD.row 3 (ts.flatMap Section.pd)).sz := ⟨_, rfl⟩
  have Z := Lib.hid hz
  clear hz
  by_cases ht : z ≤ 1048576
  case neg =>
    go_enter Try.func4, Try.ntmps4
    go_wp2_with fail
    refine (szSectionS_all _ w.heap.size (.slice A n c) w 1048576 (by omega) (by omega) (Nat.le_refl _) WF.out R0.out).mono ?_
    rintro e w1 ⟨rfl, hb1⟩
    rw [← Z.out, szLeft_no (by omega)]
    go_wp2_with fail
    go_ret
    exact ⟨rfl, hb1⟩
  have SP := specSectionBytes_ok ts WF.out (by rw [← Z.out]; exact ht)
  have IM := implSectionBytes_ok ts WF.out (by rw [← Z.out]; exact ht)
  obtain ⟨r0, hr⟩ : ∃ r : ByteArray, r = secsS ts := ⟨_, rfl⟩
  rw [← hr] at SP IM
  clear hr
  have SP' := Lib.hid SP
  have IM' := Lib.hid IM
  clear SP IM
  go_enter Try.func4, Try.ntmps4
  go_wp2_with fail
  obtain ⟨w0, hw0⟩ : ∃ W, W = w := ⟨_, rfl⟩
  have hB0 : Below w.heap.size w w0 := by rw [hw0]; exact Below.refl _ _
  rw [← hw0]
  clear hw0
  have hs0 := hB0.size
  refine (szSectionS_all _ w.heap.size (.slice A n c) _ 1048576 (by omega) (by omega) hB0.size WF.out (R0.out.below hB0)).mono ?_
  rintro e w1 ⟨rfl, hb1⟩
  have hs1 := hb1.size
  have hB1 := hB0.trans (hb1.mono hB0.size)
  rw [← Z.out, szLeft_yes (by omega)]
  have hp : (0 : Int) ≤ 1048576 - (z : Int) := by omega
  go_wp2_with fail
  refine (toSectionS_all _ w.heap.size (.slice A n c) _ hB1.size (by rw [← Z.out]; exact ht) (R0.out.below hB1)).mono ?_
  rintro e w2 ⟨us, rfl, Ls, hb2⟩
  have hs2 := hb2.size
  have hB2 := hB1.trans (hb2.mono hB1.size)
  obtain ⟨As, ns, cs, rfl⟩ := Ls.form
  go_wp2_with fail
  refine (SP'.out w2.heap.size (.slice As ns cs) _ (Nat.le_refl _) Ls.is).mono ?_
  rintro e w3 ⟨rfl, hb3⟩
  have hs3 := hb3.size
  have hB3 := hB2.trans (hb3.mono hB2.size)
  replace Ls := Ls.step hb3
  clear Ls
  go_wp2_with fail
  refine (toSectionS_all _ w.heap.size (.slice A n c) _ hB3.size (by rw [← Z.out]; exact ht) (R0.out.below hB3)).mono ?_
  rintro e w4 ⟨ux, rfl, Lx, hb4⟩
  have hs4 := hb4.size
  have hB4 := hB3.trans (hb4.mono hB3.size)
  obtain ⟨Ax, nx, cx, rfl⟩ := Lx.form
  go_wp2_with fail
  refine (IM'.out w4.heap.size (.slice Ax nx cx) _ (Nat.le_refl _) Lx.is).mono ?_
  rintro e w5 ⟨rfl, hb5⟩
  have hs5 := hb5.size
  have hB5 := hB4.trans (hb5.mono hB4.size)
  replace Lx := Lx.step hb5
  go_wp2_with fail
  refine (toSectionS_all _ w.heap.size (.slice A n c) _ hB5.size (by rw [← Z.out]; exact ht) (R0.out.below hB5)).mono ?_
  rintro e w6 ⟨uy, rfl, Ly, hb6⟩
  have hs6 := hb6.size
  have hB6 := hB5.trans (hb6.mono hB5.size)
  replace Lx := Lx.step hb6
  obtain ⟨Ay, ny, cy, rfl⟩ := Ly.form
  go_wp2_with fail
  refine (eqSectionS_all _ w6.heap.size _ _ _ (Nat.le_refl _) Lx.is Ly.is).mono ?_
  rintro e w7 ⟨rfl, hb7⟩
  have hs7 := hb7.size
  have hB7 := hB6.trans (hb7.mono hB6.size)
  replace Lx := Lx.step hb7
  replace Ly := Ly.step hb7
  clear Ly
  go_wp2_with fail
  go_ret
  exact ⟨rfl, hB7⟩

end Go.Proofs.Ytokiagkoehjekaa
