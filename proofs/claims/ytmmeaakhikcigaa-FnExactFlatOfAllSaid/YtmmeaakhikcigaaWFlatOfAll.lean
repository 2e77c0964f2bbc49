/-
  FnExactFlatOfAll: the law's walk (by program: lawgen2.py).
-/
import Derived.Test.YtmmeaakhikcigaaArg
import Derived.Test.YtmmeaakhikcigaaSz
import Derived.Test.YtmmeaakhikcigaaTo
import Derived.Test.YtmmeaakhikcigaaEq
import Derived.Test.YtmmeaakhikcigaaMk
import Derived.Test.YtmmeaakhikcigaaHd
import Derived.Test.YtmmeaakhikcigaaFlOk
namespace Go.Proofs.Ytmmeaakhikcigaa
open Go.RowKit
set_option linter.unusedVariables false
set_option linter.unusedSimpArgs false
set_option linter.unnecessarySimpa false
set_option maxRecDepth 100000

set_option maxHeartbeats 3200000 in
theorem walk_FnExactFlatOfAll (w : World) (v0 : Value) (h : ArgTypeS w v0) :
    Calls Try.prog 14 #[v0] w fun e w' => e = .returned (.bool true) ∧ Below w.heap.size w w' := by
  obtain ⟨ts, hwf, hr⟩ := h
  obtain ⟨A, n, c, rfl⟩ := hr.form
  have WF := Lib.hid hwf
  have R0 := Lib.hid hr
  clear hwf hr
  obtain ⟨z, hz⟩ : ∃ z : Nat, z = (PD.row 4 (ts.flatMap Ty.pd)).sz := ⟨_, rfl⟩
  have Z := Lib.hid hz
  clear hz
  by_cases ht : z ≤ 1048576
  case neg =>
    go_enter Try.func14, Try.ntmps14
    go_wp2_with fail
    refine (szTypeS_all _ w.heap.size (.slice A n c) w 1048576 (by omega) (by omega) (Nat.le_refl _) WF.out R0.out).mono ?_
    rintro e w1 ⟨rfl, hb1⟩
    rw [← Z.out, szLeft_no (by omega)]
    go_wp2_with fail
    go_ret
    exact ⟨rfl, hb1⟩
  have SP := specFlatOfAll_ok ts WF.out (by rw [← Z.out]; exact ht)
  have IM := implFlatOfAll_ok ts WF.out (by rw [← Z.out]; exact ht)
  obtain ⟨rs, hrs⟩ : ∃ rs, rs = flatAllRes ts := ⟨_, rfl⟩
  rw [← hrs] at SP IM
  have hrb := flatAllRes_cnt ts
  rw [← hrs] at hrb
  clear hrs
  obtain ⟨m, hm⟩ : ∃ m : Nat, m = (PD.row 1 (rs.flatMap intC)).cnt := ⟨_, rfl⟩
  rw [← hm] at hrb
  have M := Lib.hid hm
  clear hm
  have hqb := PD.cnt_row_le _ _ (row_fit (ts := ts) Ty.pd_length (by decide) (by decide) (fun t _ => Ty.fit t))
  obtain ⟨q, hq⟩ : ∃ q : Nat, q = (PD.row 4 (ts.flatMap Ty.pd)).cnt := ⟨_, rfl⟩
  rw [← Z.out] at hqb
  rw [← hq] at hqb
  have Q := Lib.hid hq
  clear hq
  have SP' := Lib.hid SP
  have IM' := Lib.hid IM
  clear SP IM
  go_enter Try.func14, Try.ntmps14
  go_wp2_with fail
  obtain ⟨w0, hw0⟩ : ∃ W, W = w := ⟨_, rfl⟩
  have hB0 : Below w.heap.size w w0 := by rw [hw0]; exact Below.refl _ _
  rw [← hw0]
  clear hw0
  have hs0 := hB0.size
  refine (szTypeS_all _ w.heap.size (.slice A n c) _ 1048576 (by omega) (by omega) hB0.size WF.out (R0.out.below hB0)).mono ?_
  rintro e w1 ⟨rfl, hb1⟩
  have hs1 := hb1.size
  have hB1 := hB0.trans (hb1.mono hB0.size)
  rw [← Z.out, szLeft_yes (by omega)]
  have hp : (0 : Int) ≤ 1048576 - (z : Int) := by omega
  go_wp2_with fail
  refine (toTypeS_all _ w.heap.size (.slice A n c) _ hB1.size (by rw [← Z.out]; exact ht) (R0.out.below hB1)).mono ?_
  rintro e w2 ⟨us, rfl, Ls, hb2⟩
  have hs2 := hb2.size
  have hB2 := hB1.trans (hb2.mono hB1.size)
  obtain ⟨As, ns, cs, rfl⟩ := Ls.form
  go_wp2_with fail
  refine (SP'.out w2.heap.size (.slice As ns cs) _ (Nat.le_refl _) Ls.is).mono ?_
  rintro e w3 ⟨vw, rfl, Gw, hb3⟩
  have hs3 := hb3.size
  have hB3 := hB2.trans (hb3.mono hB2.size)
  replace Ls := Ls.step hb3
  obtain ⟨Aw, nw, cw, rfl⟩ := Gw.form
  clear Ls
  go_wp2_with fail
  refine (toTypeS_all _ w.heap.size (.slice A n c) _ hB3.size (by rw [← Z.out]; exact ht) (R0.out.below hB3)).mono ?_
  rintro e w4 ⟨ux, rfl, Lx, hb4⟩
  have hs4 := hb4.size
  have hB4 := hB3.trans (hb4.mono hB3.size)
  replace Gw := Gw.step hb4
  obtain ⟨Ax, nx, cx, rfl⟩ := Lx.form
  go_wp2_with fail
  refine (IM'.out w4.heap.size (.slice Ax nx cx) _ (Nat.le_refl _) Lx.is).mono ?_
  rintro e w5 ⟨vg, rfl, Gg, hb5⟩
  have hs5 := hb5.size
  have hB5 := hB4.trans (hb5.mono hB4.size)
  replace Gw := Gw.step hb5
  replace Lx := Lx.step hb5
  obtain ⟨Ag, ng, cg, rfl⟩ := Gg.form
  go_wp2_with fail
  refine (eqInt64S_all rs w5.heap.size _ _ _ (Nat.le_refl _) Gg.is Gw.is).mono ?_
  rintro e w6 ⟨rfl, hb6⟩
  have hs6 := hb6.size
  have hB6 := hB5.trans (hb6.mono hB5.size)
  replace Gw := Gw.step hb6
  replace Lx := Lx.step hb6
  replace Gg := Gg.step hb6
  go_wp2_with fail
  refine (toTypeS_all _ w.heap.size (.slice A n c) _ hB6.size (by rw [← Z.out]; exact ht) (R0.out.below hB6)).mono ?_
  rintro e w7 ⟨uy, rfl, Ly, hb7⟩
  have hs7 := hb7.size
  have hB7 := hB6.trans (hb7.mono hB6.size)
  replace Gw := Gw.step hb7
  replace Lx := Lx.step hb7
  replace Gg := Gg.step hb7
  obtain ⟨Ay, ny, cy, rfl⟩ := Ly.form
  go_wp2_with fail
  refine (eqTypeS_all _ w7.heap.size _ _ _ (Nat.le_refl _) Lx.is Ly.is).mono ?_
  rintro e w8 ⟨rfl, hb8⟩
  have hs8 := hb8.size
  have hB8 := hB7.trans (hb8.mono hB7.size)
  replace Gw := Gw.step hb8
  replace Lx := Lx.step hb8
  replace Gg := Gg.step hb8
  replace Ly := Ly.step hb8
  clear Ly
  go_wp2_with fail
  obtain ⟨Fx, hx1, hx2, hx3⟩ := Lx
  refine (markTypeS_all _ (.slice Ax nx cx) Fx _ 1 (by omega) (by rw [← Q.out]; omega) hx1 hx2.1 (fun b hb => Nat.lt_of_lt_of_le (hx2.2 b hb).2 hx3)).mono ?_
  rintro e w9 ⟨rfl, _, kf⟩
  rw [← Q.out]
  have kk : Keep w3.heap.size w4.heap.size w8 w9 := kf.keep hx2.2
  have hs9 := kk.size
  have hB9 := hB8.trans ((kk.below (by omega)).mono (by omega))
  replace Gw := Gw.kept kk (by omega)
  replace Gg := Gg.kept kk (by omega)
  clear kf kk hx1 hx2 hx3
  have hk0 : ¬ (1 + (q : Int)) < 0 := by omega
  go_wp2_with fail
  refine (eqInt64S_all rs w9.heap.size _ _ _ (Nat.le_refl _) Gg.is Gw.is).mono ?_
  rintro e w10 ⟨rfl, hb10⟩
  have hs10 := hb10.size
  have hB10 := hB9.trans (hb10.mono hB9.size)
  replace Gw := Gw.step hb10
  replace Gg := Gg.step hb10
  go_wp2_with fail
  have GI := Lib.hid Gg
  obtain ⟨Fg, hg1, hg2, hg3⟩ := Gg
  refine (markInt64S_all rs _ Fg _ 1 (by omega) (by rw [← M.out]; omega) hg1 hg2.1 (fun b hb => Nat.lt_of_lt_of_le (hg2.2 b hb).2 hg3)).mono ?_
  rintro e w11 ⟨rfl, hgm, kf⟩
  rw [← M.out]
  have hs11 := kf.size
  have kk : Keep _ _ w10 w11 := kf.keep hg2.2
  have hB11 := hB10.trans ((kk.below (by omega)).mono (by omega))
  replace Gw := Gw.kept kk (by omega)
  have Gm : Lv w11 _ _ ((PD.row 1 (rs.flatMap intC)).mark 1) _ := ⟨Fg, hgm, hg2, Nat.le_trans hg3 kf.size⟩
  clear kf kk hg1 hg2 hg3 hgm
  have hk1 : ¬ (1 + (m : Int)) < 0 := by omega
  have hqm : ((1 + (m : Int)) != (1 + (m : Int))) = false := by simp
  go_wp2_with fail
  refine (heldInt64S_all rs w11.heap.size _ _ 1 (by omega) (by rw [← M.out]; omega) (Nat.le_refl _) Gm.is).mono ?_
  rintro e w12 ⟨rfl, hb12⟩
  have hs12 := hb12.size
  have hB12 := hB11.trans (hb12.mono hB11.size)
  replace Gw := Gw.step hb12
  replace Gm := Gm.step hb12
  rw [← M.out]
  go_wp2_with fail
  refine (toTypeS_all _ w.heap.size (.slice A n c) _ hB12.size (by rw [← Z.out]; exact ht) (R0.out.below hB12)).mono ?_
  rintro e w13 ⟨uh, rfl, Lh, hb13⟩
  have hs13 := hb13.size
  have hB13 := hB12.trans (hb13.mono hB12.size)
  replace Gw := Gw.step hb13
  replace Gm := Gm.step hb13
  obtain ⟨Ah, nh, ch, rfl⟩ := Lh.form
  go_wp2_with fail
  refine (IM'.out w13.heap.size (.slice Ah nh ch) _ (Nat.le_refl _) Lh.is).mono ?_
  rintro e w14 ⟨vh, rfl, Gh, hb14⟩
  have hs14 := hb14.size
  have hB14 := hB13.trans (hb14.mono hB13.size)
  replace Gw := Gw.step hb14
  replace Gm := Gm.step hb14
  replace Lh := Lh.step hb14
  obtain ⟨Ah, nh, ch, rfl⟩ := Gh.form
  clear Lh
  go_wp2_with fail
  refine (eqInt64S_all rs w14.heap.size _ _ _ (Nat.le_refl _) Gh.is Gw.is).mono ?_
  rintro e w15 ⟨rfl, hb15⟩
  have hs15 := hb15.size
  have hB15 := hB14.trans (hb15.mono hB14.size)
  replace Gw := Gw.step hb15
  replace Gm := Gm.step hb15
  replace Gh := Gh.step hb15
  go_wp2_with fail
  refine (heldInt64S_all rs w15.heap.size _ _ 1 (by omega) (by rw [← M.out]; omega) (Nat.le_refl _) Gm.is).mono ?_
  rintro e w16 ⟨rfl, hb16⟩
  have hs16 := hb16.size
  have hB16 := hB15.trans (hb16.mono hB15.size)
  replace Gw := Gw.step hb16
  replace Gm := Gm.step hb16
  replace Gh := Gh.step hb16
  rw [← M.out]
  go_wp2_with fail
  go_ret
  exact ⟨rfl, hB16⟩

end Go.Proofs.Ytmmeaakhikcigaa
