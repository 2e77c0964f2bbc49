/-
  FnExactJoinKinds: the law's walk, by program (lawgen.py).
-/
import Derived.Test.YtoeaihancoglpaaJoin
namespace Go.Proofs.Ytoeaihancoglpaa
open Go.RowKit
set_option linter.unusedVariables false
set_option maxHeartbeats 1600000 in
theorem walk_FnExactJoinKinds (w : World) (v0 : Value) (h : ArgI w v0) (v1 : Value) (k : ArgI w v1) :
    Calls Try.prog 12 #[v0, v1] w fun e w' => e = .returned (.bool true) ∧ Below w.heap.size w w' := by
  obtain ⟨A, n, c, xs, rfl, hnx, hm, A0⟩ := h.is
  obtain ⟨A', n', c', ys, rfl, hny, hm', A1⟩ := k.is
  unfold maxLen at hm hm'
  clear h k
  have HN := Lib.hid hnx
  have HM := Lib.hid hny
  clear hnx hny
  by_cases hn : (1048576 : Int) < n
  · clear A0 A1
    go_enter Try.func12, Try.ntmps12
    go_wp2_with fail
    go_ret
    exact ⟨rfl, Below.refl _ _⟩
  by_cases hn' : (1048576 : Int) < n'
  · clear A0 A1
    go_enter Try.func12, Try.ntmps12
    go_wp2_with fail
    go_ret
    exact ⟨rfl, Below.refl _ _⟩
  have hsz0 : xs.length ≤ 1048576 := by have := HN.out; omega
  have hsz1 : ys.length ≤ 1048576 := by have := HM.out; omega
  have hszr := joinRes_le hsz0 hsz1
  go_enter Try.func12, Try.ntmps12
  go_wp2_with fail
  refine (toI_V (B := w.heap.size) (by omega) hsz0 (A0.below (Below.refl _ w))).mono ?_
  rintro e w1 ⟨us0, rfl, Ls0, hb1⟩
  have hs1 := hb1.size
  have hB1 := hb1
  go_wp2_with fail
  refine (toI_V (B := w.heap.size) (by omega) hsz1 (A1.below hB1)).mono ?_
  rintro e w2 ⟨us1, rfl, Ls1, hb2⟩
  have hs2 := hb2.size
  have hB2 := hB1.trans (hb2.mono hB1.size)
  replace Ls0 := Ls0.step hb2
  go_wp2_with fail
  refine (specJoinKinds_V (by omega) hsz0 hsz1 Ls0.is Ls1.is).mono ?_
  rintro e w3 ⟨vW0, rfl, W0, hb3⟩
  have hs3 := hb3.size
  have hB3 := hB2.trans (hb3.mono hB2.size)
  replace Ls0 := Ls0.step hb3
  replace Ls1 := Ls1.step hb3
  go_wp2_with fail
  refine (toI_V (B := w.heap.size) (by omega) hsz0 (A0.below hB3)).mono ?_
  rintro e w4 ⟨ux0, rfl, Lx0, hb4⟩
  have hs4 := hb4.size
  have hB4 := hB3.trans (hb4.mono hB3.size)
  replace W0 := W0.step hb4
  go_wp2_with fail
  refine (toI_V (B := w.heap.size) (by omega) hsz1 (A1.below hB4)).mono ?_
  rintro e w5 ⟨ux1, rfl, Lx1, hb5⟩
  have hs5 := hb5.size
  have hB5 := hB4.trans (hb5.mono hB4.size)
  replace W0 := W0.step hb5
  replace Lx0 := Lx0.step hb5
  go_wp2_with fail
  refine (implJoinKinds_V (by omega) hsz0 hsz1 Lx0.is Lx1.is).mono ?_
  rintro e w6 ⟨vG0, rfl, G0, hb6⟩
  have hs6 := hb6.size
  have hB6 := hB5.trans (hb6.mono hB5.size)
  replace W0 := W0.step hb6
  replace Lx0 := Lx0.step hb6
  replace Lx1 := Lx1.step hb6
  go_wp2_with fail
  refine (eqI_V G0.is W0.is).mono ?_
  rintro e w7 ⟨rfl, hb7⟩
  have hs7 := hb7.size
  have hB7 := hB6.trans (hb7.mono hB6.size)
  replace W0 := W0.step hb7
  replace Lx0 := Lx0.step hb7
  replace Lx1 := Lx1.step hb7
  replace G0 := G0.step hb7
  rw [decide_eq_true (rfl : joinRes xs ys = _)]
  go_wp2_with fail
  refine (toI_V (B := w.heap.size) (by omega) hsz0 (A0.below hB7)).mono ?_
  rintro e w8 ⟨uy0, rfl, Ly0, hb8⟩
  have hs8 := hb8.size
  have hB8 := hB7.trans (hb8.mono hB7.size)
  replace W0 := W0.step hb8
  replace Lx0 := Lx0.step hb8
  replace Lx1 := Lx1.step hb8
  replace G0 := G0.step hb8
  go_wp2_with fail
  refine (eqI_V Lx0.is Ly0.is).mono ?_
  rintro e w9 ⟨rfl, hb9⟩
  have hs9 := hb9.size
  have hB9 := hB8.trans (hb9.mono hB8.size)
  replace W0 := W0.step hb9
  replace Lx0 := Lx0.step hb9
  replace Lx1 := Lx1.step hb9
  replace G0 := G0.step hb9
  replace Ly0 := Ly0.step hb9
  rw [decide_eq_true (rfl : xs = _)]
  go_wp2_with fail
  refine (toI_V (B := w.heap.size) (by omega) hsz1 (A1.below hB9)).mono ?_
  rintro e w10 ⟨uy1, rfl, Ly1, hb10⟩
  have hs10 := hb10.size
  have hB10 := hB9.trans (hb10.mono hB9.size)
  replace W0 := W0.step hb10
  replace Lx0 := Lx0.step hb10
  replace Lx1 := Lx1.step hb10
  replace G0 := G0.step hb10
  go_wp2_with fail
  refine (eqI_V Lx1.is Ly1.is).mono ?_
  rintro e w11 ⟨rfl, hb11⟩
  have hs11 := hb11.size
  have hB11 := hB10.trans (hb11.mono hB10.size)
  replace W0 := W0.step hb11
  replace Lx0 := Lx0.step hb11
  replace Lx1 := Lx1.step hb11
  replace G0 := G0.step hb11
  replace Ly1 := Ly1.step hb11
  rw [decide_eq_true (rfl : ys = _)]
  go_wp2_with fail
  refine (markI_V (k0 := 1) (by omega) (by omega) Lx0).mono ?_
  rintro e w12 ⟨rfl, Lx0, hk12⟩
  have hs12 := hk12.size
  have hB12 := hB11.trans ((hk12.below (by omega)).mono (by omega))
  replace W0 := W0.kept hk12 (by omega)
  replace Lx1 := Lx1.kept hk12 (by omega)
  replace G0 := G0.kept hk12 (by omega)
  go_wp2_with fail
  refine (markI_V (k0 := 1 + (xs.length : Int)) (by omega) (by omega) Lx1).mono ?_
  rintro e w13 ⟨rfl, Lx1, hk13⟩
  have hs13 := hk13.size
  have hB13 := hB12.trans ((hk13.below (by omega)).mono (by omega))
  replace W0 := W0.kept hk13 (by omega)
  replace Lx0 := Lx0.kept hk13 (by omega)
  replace G0 := G0.kept hk13 (by omega)
  have hk0 : ¬ (1 + (xs.length : Int) + (ys.length : Int)) < 0 := by omega
  go_wp2_with fail
  refine (eqI_V G0.is W0.is).mono ?_
  rintro e w14 ⟨rfl, hb14⟩
  have hs14 := hb14.size
  have hB14 := hB13.trans (hb14.mono hB13.size)
  replace W0 := W0.step hb14
  replace Lx0 := Lx0.step hb14
  replace Lx1 := Lx1.step hb14
  replace G0 := G0.step hb14
  rw [decide_eq_true (rfl : joinRes xs ys = _)]
  go_wp2_with fail
  refine (markI_V (k0 := 1) (by omega) (by omega) G0).mono ?_
  rintro e w15 ⟨rfl, G0, hk15⟩
  have hs15 := hk15.size
  have hB15 := hB14.trans ((hk15.below (by omega)).mono (by omega))
  replace W0 := W0.kept hk15 (by omega)
  go_wp2_with fail
  refine (heldI_V (k0 := 1) (n := (joinRes xs ys).length) (by omega) (by omega) G0.is).mono ?_
  rintro e w16 ⟨rfl, hb16⟩
  have hs16 := hb16.size
  have hB16 := hB15.trans (hb16.mono hB15.size)
  replace W0 := W0.step hb16
  replace G0 := G0.step hb16
  have hq0 : ¬ (1 + ((joinRes xs ys).length : Int)) < 0 := by omega
  have hqm : ((1 + ((joinRes xs ys).length : Int)) != (1 + ((joinRes xs ys).length : Int))) = false := by simp
  go_wp2_with fail
  refine (toI_V (B := w.heap.size) (by omega) hsz0 (A0.below hB16)).mono ?_
  rintro e w17 ⟨uh0, rfl, Lh0, hb17⟩
  have hs17 := hb17.size
  have hB17 := hB16.trans (hb17.mono hB16.size)
  replace W0 := W0.step hb17
  replace G0 := G0.step hb17
  go_wp2_with fail
  refine (toI_V (B := w.heap.size) (by omega) hsz1 (A1.below hB17)).mono ?_
  rintro e w18 ⟨uh1, rfl, Lh1, hb18⟩
  have hs18 := hb18.size
  have hB18 := hB17.trans (hb18.mono hB17.size)
  replace W0 := W0.step hb18
  replace G0 := G0.step hb18
  replace Lh0 := Lh0.step hb18
  go_wp2_with fail
  refine (implJoinKinds_V (by omega) hsz0 hsz1 Lh0.is Lh1.is).mono ?_
  rintro e w19 ⟨vH0, rfl, H0, hb19⟩
  have hs19 := hb19.size
  have hB19 := hB18.trans (hb19.mono hB18.size)
  replace W0 := W0.step hb19
  replace G0 := G0.step hb19
  replace Lh0 := Lh0.step hb19
  replace Lh1 := Lh1.step hb19
  go_wp2_with fail
  refine (eqI_V H0.is W0.is).mono ?_
  rintro e w20 ⟨rfl, hb20⟩
  have hs20 := hb20.size
  have hB20 := hB19.trans (hb20.mono hB19.size)
  replace W0 := W0.step hb20
  replace G0 := G0.step hb20
  replace H0 := H0.step hb20
  rw [decide_eq_true (rfl : joinRes xs ys = _)]
  go_wp2_with fail
  refine (heldI_V (k0 := 1) (n := (joinRes xs ys).length) (by omega) (by omega) G0.is).mono ?_
  rintro e w21 ⟨rfl, hb21⟩
  have hs21 := hb21.size
  have hB21 := hB20.trans (hb21.mono hB20.size)
  replace W0 := W0.step hb21
  replace G0 := G0.step hb21
  replace H0 := H0.step hb21
  go_wp2_with fail
  go_ret
  exact ⟨rfl, hB21⟩

end Go.Proofs.Ytoeaihancoglpaa
