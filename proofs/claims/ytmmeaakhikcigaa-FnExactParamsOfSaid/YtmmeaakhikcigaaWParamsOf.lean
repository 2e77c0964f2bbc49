/-
  FnExactParamsOf: the law's walk (by program: lawgen2.py).
-/
import Derived.Test.YtmmeaakhikcigaaArg
import Derived.Test.YtmmeaakhikcigaaSz
import Derived.Test.YtmmeaakhikcigaaTo
import Derived.Test.YtmmeaakhikcigaaEq
import Derived.Test.YtmmeaakhikcigaaMk
import Derived.Test.YtmmeaakhikcigaaHd
import Derived.Test.YtmmeaakhikcigaaPaOk
namespace Go.Proofs.Ytmmeaakhikcigaa
open Go.RowKit
set_option linter.unusedVariables false
set_option linter.unusedSimpArgs false
set_option linter.unnecessarySimpa false
set_option maxRecDepth 100000

set_option maxHeartbeats 3200000 in
theorem walk_FnExactParamsOf (w : World) (v0 : Value) (h : ArgFuncType w v0) :
    Calls Try.prog 16 #[v0] w fun e w' => e = .returned (.bool true) ∧ Below w.heap.size w w' := by
  obtain ⟨t, cs, rfl, hwf, hr⟩ := h
  obtain ⟨params, ⟨result_kind, result_name, result_labels, result_kids⟩, async⟩ := t
  obtain ⟨paramsV, result_labelsV, result_kidsV, rfl, _, _, _⟩ := FuncType.open_ hr
  have WF := Lib.hid hwf
  have R0 := Lib.hid hr
  clear hwf hr
  obtain ⟨z, hz⟩ : ∃ z : Nat, z = PD.szL (FuncType.pd ⟨params, ⟨result_kind, result_name, result_labels, result_kids⟩, async⟩) := ⟨_, rfl⟩
  have Z := Lib.hid hz
  clear hz
  by_cases ht : z ≤ 1048576
  case neg =>
    go_enter Try.func16, Try.ntmps16
    go_wp2_with fail
    obtain ⟨w0, hw0⟩ : ∃ w0, w0 = w.alloc (.cells #[paramsV, .int .i64 result_kind, .string result_name, result_labelsV, result_kidsV, .bool async] 66) := ⟨_, rfl⟩
    rw [← hw0]
    have bA : Blk w0 w.heap.size 66 #[paramsV, .int .i64 result_kind, .string result_name, result_labelsV, result_kidsV, .bool async] := by rw [hw0]; exact Blk.new w _ _
    have hB0 : Below w.heap.size w w0 := by rw [hw0]; exact (Below.refl _ _).alloc (Nat.le_refl _) _
    clear hw0
    have hs0 := bA.lt
    refine (szFuncType_all _ w.heap.size [paramsV, .int .i64 result_kind, .string result_name, result_labelsV, result_kidsV, .bool async] w0 1048576 (by omega) (by omega) hB0.size WF.out (R0.out.below hB0)).mono ?_
    rintro e w1 ⟨rfl, hb1⟩
    rw [← Z.out, szLeft_no (by omega)]
    go_wp2_with fail
    go_ret
    exact ⟨rfl, hB0.trans (hb1.mono hB0.size)⟩
  have SP := specParamsOf_ok (⟨params, ⟨result_kind, result_name, result_labels, result_kids⟩, async⟩ : FuncType) WF.out (by rw [← Z.out]; exact ht)
  have IM := implParamsOf_ok (⟨params, ⟨result_kind, result_name, result_labels, result_kids⟩, async⟩ : FuncType) WF.out (by rw [← Z.out]; exact ht)
  obtain ⟨rs, hrs⟩ : ∃ rs, rs = paramsRes ⟨params, ⟨result_kind, result_name, result_labels, result_kids⟩, async⟩ := ⟨_, rfl⟩
  rw [← hrs] at SP IM
  have hrb := paramsRes_cnt ⟨params, ⟨result_kind, result_name, result_labels, result_kids⟩, async⟩
  rw [← hrs] at hrb
  clear hrs
  obtain ⟨m, hm⟩ : ∃ m : Nat, m = (PD.row 4 (rs.flatMap Ty.pd)).cnt := ⟨_, rfl⟩
  rw [← hm] at hrb
  have M := Lib.hid hm
  clear hm
  have hqb := rowsCnt_le _ (FuncType.fit (⟨params, ⟨result_kind, result_name, result_labels, result_kids⟩, async⟩ : FuncType))
  obtain ⟨q, hq⟩ : ∃ q : Nat, q = rowsCnt (FuncType.pd ⟨params, ⟨result_kind, result_name, result_labels, result_kids⟩, async⟩) := ⟨_, rfl⟩
  rw [← Z.out] at hqb
  rw [← hq] at hqb
  have Q := Lib.hid hq
  clear hq
  have SP' := Lib.hid SP
  have IM' := Lib.hid IM
  clear SP IM
  go_enter Try.func16, Try.ntmps16
  go_wp2_with fail
  obtain ⟨w0, hw0⟩ : ∃ w0, w0 = w.alloc (.cells #[paramsV, .int .i64 result_kind, .string result_name, result_labelsV, result_kidsV, .bool async] 66) := ⟨_, rfl⟩
  rw [← hw0]
  have bA : Blk w0 w.heap.size 66 #[paramsV, .int .i64 result_kind, .string result_name, result_labelsV, result_kidsV, .bool async] := by rw [hw0]; exact Blk.new w _ _
  have hB0 : Below w.heap.size w w0 := by rw [hw0]; exact (Below.refl _ _).alloc (Nat.le_refl _) _
  clear hw0
  have hs0 := bA.lt
  refine (szFuncType_all _ w.heap.size [paramsV, .int .i64 result_kind, .string result_name, result_labelsV, result_kidsV, .bool async] _ 1048576 (by omega) (by omega) hB0.size WF.out (R0.out.below hB0)).mono ?_
  rintro e w1 ⟨rfl, hb1⟩
  have hs1 := hb1.size
  have hB1 := hB0.trans (hb1.mono hB0.size)
  replace bA := bA.step hb1
  rw [← Z.out, szLeft_yes (by omega)]
  have hp : (0 : Int) ≤ 1048576 - (z : Int) := by omega
  have a_bA0 : w1.cell? ⟨w.heap.size, 0, none⟩ = some (paramsV) := bA.cell 0
  have a_bA1 : w1.cell? ⟨w.heap.size, 1, none⟩ = some (.int .i64 result_kind) := bA.cell 1
  have a_bA2 : w1.cell? ⟨w.heap.size, 2, none⟩ = some (.string result_name) := bA.cell 2
  have a_bA3 : w1.cell? ⟨w.heap.size, 3, none⟩ = some (result_labelsV) := bA.cell 3
  have a_bA4 : w1.cell? ⟨w.heap.size, 4, none⟩ = some (result_kidsV) := bA.cell 4
  have a_bA5 : w1.cell? ⟨w.heap.size, 5, none⟩ = some (.bool async) := bA.cell 5
  go_wp2_with fail
  clear a_bA0 a_bA1 a_bA2 a_bA3 a_bA4 a_bA5
  refine (toFuncType_all _ w.heap.size [paramsV, .int .i64 result_kind, .string result_name, result_labelsV, result_kidsV, .bool async] _ hB1.size (by rw [← Z.out]; exact ht) (R0.out.below hB1)).mono ?_
  rintro e w2 ⟨us, rfl, Ls, hb2⟩
  have hs2 := hb2.size
  have hB2 := hB1.trans (hb2.mono hB1.size)
  replace bA := bA.step hb2
  have Ks := Ls
  obtain ⟨paramsAs, paramsNs, paramsCs, result_labelsAs, result_labelsNs, result_labelsCs, result_kidsAs, result_kidsNs, result_kidsCs, rfl⟩ := FuncType.lopen Ks
  clear Ks
  go_wp2_with fail
  refine (SP'.out w2.heap.size [.slice paramsAs paramsNs paramsCs, .int .i64 result_kind, .string result_name, .slice result_labelsAs result_labelsNs result_labelsCs, .slice result_kidsAs result_kidsNs result_kidsCs, .bool async] _ (Nat.le_refl _) Ls.is).mono ?_
  rintro e w3 ⟨vw, rfl, Gw, hb3⟩
  have hs3 := hb3.size
  have hB3 := hB2.trans (hb3.mono hB2.size)
  replace Ls := Ls.step hb3
  replace bA := bA.step hb3
  obtain ⟨Aw, nw, cw, rfl⟩ := Gw.form
  clear Ls
  have b_bA0 : w3.cell? ⟨w.heap.size, 0, none⟩ = some (paramsV) := bA.cell 0
  have b_bA1 : w3.cell? ⟨w.heap.size, 1, none⟩ = some (.int .i64 result_kind) := bA.cell 1
  have b_bA2 : w3.cell? ⟨w.heap.size, 2, none⟩ = some (.string result_name) := bA.cell 2
  have b_bA3 : w3.cell? ⟨w.heap.size, 3, none⟩ = some (result_labelsV) := bA.cell 3
  have b_bA4 : w3.cell? ⟨w.heap.size, 4, none⟩ = some (result_kidsV) := bA.cell 4
  have b_bA5 : w3.cell? ⟨w.heap.size, 5, none⟩ = some (.bool async) := bA.cell 5
  go_wp2_with fail
  clear b_bA0 b_bA1 b_bA2 b_bA3 b_bA4 b_bA5
  refine (toFuncType_all _ w.heap.size [paramsV, .int .i64 result_kind, .string result_name, result_labelsV, result_kidsV, .bool async] _ hB3.size (by rw [← Z.out]; exact ht) (R0.out.below hB3)).mono ?_
  rintro e w4 ⟨ux, rfl, Lx, hb4⟩
  have hs4 := hb4.size
  have hB4 := hB3.trans (hb4.mono hB3.size)
  replace Gw := Gw.step hb4
  replace bA := bA.step hb4
  have Kx := Lx
  obtain ⟨paramsAx, paramsNx, paramsCx, result_labelsAx, result_labelsNx, result_labelsCx, result_kidsAx, result_kidsNx, result_kidsCx, rfl⟩ := FuncType.lopen Kx
  clear Kx
  go_wp2_with fail
  obtain ⟨w5, hw5⟩ : ∃ W, W = w4.alloc (.cells #[.slice paramsAx paramsNx paramsCx, .int .i64 result_kind, .string result_name, .slice result_labelsAx result_labelsNx result_labelsCx, .slice result_kidsAx result_kidsNx result_kidsCx, .bool async] 71) := ⟨_, rfl⟩
  rw [← hw5]
  have hb5 : Below w4.heap.size w4 w5 := by rw [hw5]; exact (Below.refl _ _).alloc (Nat.le_refl _) _
  have bX : Blk w5 w4.heap.size 71 #[.slice paramsAx paramsNx paramsCx, .int .i64 result_kind, .string result_name, .slice result_labelsAx result_labelsNx result_labelsCx, .slice result_kidsAx result_kidsNx result_kidsCx, .bool async] := by rw [hw5]; exact Blk.new w4 _ _
  clear hw5
  have hs5 := hb5.size
  have hB5 := hB4.trans (hb5.mono hB4.size)
  replace Gw := Gw.step hb5
  replace Lx := Lx.step hb5
  replace bA := bA.step hb5
  refine (IM'.out w5.heap.size [.slice paramsAx paramsNx paramsCx, .int .i64 result_kind, .string result_name, .slice result_labelsAx result_labelsNx result_labelsCx, .slice result_kidsAx result_kidsNx result_kidsCx, .bool async] _ (Nat.le_refl _) Lx.is).mono ?_
  rintro e w6 ⟨vg, rfl, Gg, hb6⟩
  have hs6 := hb6.size
  have hB6 := hB5.trans (hb6.mono hB5.size)
  replace Gw := Gw.step hb6
  replace Lx := Lx.step hb6
  replace bA := bA.step hb6
  replace bX := bX.step hb6
  obtain ⟨Ag, ng, cg, rfl⟩ := Gg.form
  go_wp2_with fail
  refine (eqTypeS_all rs w6.heap.size _ _ _ (Nat.le_refl _) Gg.is Gw.is).mono ?_
  rintro e w7 ⟨rfl, hb7⟩
  have hs7 := hb7.size
  have hB7 := hB6.trans (hb7.mono hB6.size)
  replace Gw := Gw.step hb7
  replace Lx := Lx.step hb7
  replace Gg := Gg.step hb7
  replace bA := bA.step hb7
  replace bX := bX.step hb7
  go_wp2_with fail
  have c_bA0 : w7.cell? ⟨w.heap.size, 0, none⟩ = some (paramsV) := bA.cell 0
  have c_bA1 : w7.cell? ⟨w.heap.size, 1, none⟩ = some (.int .i64 result_kind) := bA.cell 1
  have c_bA2 : w7.cell? ⟨w.heap.size, 2, none⟩ = some (.string result_name) := bA.cell 2
  have c_bA3 : w7.cell? ⟨w.heap.size, 3, none⟩ = some (result_labelsV) := bA.cell 3
  have c_bA4 : w7.cell? ⟨w.heap.size, 4, none⟩ = some (result_kidsV) := bA.cell 4
  have c_bA5 : w7.cell? ⟨w.heap.size, 5, none⟩ = some (.bool async) := bA.cell 5
  have c_bX0 : w7.cell? ⟨w4.heap.size, 0, none⟩ = some (.slice paramsAx paramsNx paramsCx) := bX.cell 0
  have c_bX1 : w7.cell? ⟨w4.heap.size, 1, none⟩ = some (.int .i64 result_kind) := bX.cell 1
  have c_bX2 : w7.cell? ⟨w4.heap.size, 2, none⟩ = some (.string result_name) := bX.cell 2
  have c_bX3 : w7.cell? ⟨w4.heap.size, 3, none⟩ = some (.slice result_labelsAx result_labelsNx result_labelsCx) := bX.cell 3
  have c_bX4 : w7.cell? ⟨w4.heap.size, 4, none⟩ = some (.slice result_kidsAx result_kidsNx result_kidsCx) := bX.cell 4
  have c_bX5 : w7.cell? ⟨w4.heap.size, 5, none⟩ = some (.bool async) := bX.cell 5
  have hA := bA.lt
  have hX := bX.lt
  have BZ := Lib.hid (show z ≤ 1048576 from ht)
  have TC := Lib.hid (toFuncType_all _ w.heap.size [paramsV, .int .i64 result_kind, .string result_name, result_labelsV, result_kidsV, .bool async] w7.drew hB7.size (by rw [← Z.out]; exact ht) (by exact R0.out.below hB7.drew))
  go_region_held3 (fun w' => w'.cell? ⟨w.heap.size, 0, none⟩ = some (paramsV) ∧ w'.cell? ⟨w.heap.size, 1, none⟩ = some (.int .i64 result_kind) ∧ w'.cell? ⟨w.heap.size, 2, none⟩ = some (.string result_name) ∧ w'.cell? ⟨w.heap.size, 3, none⟩ = some (result_labelsV) ∧ w'.cell? ⟨w.heap.size, 4, none⟩ = some (result_kidsV) ∧ w'.cell? ⟨w.heap.size, 5, none⟩ = some (.bool async) ∧ w'.cell? ⟨w4.heap.size, 0, none⟩ = some (.slice paramsAx paramsNx paramsCx) ∧ w'.cell? ⟨w4.heap.size, 1, none⟩ = some (.int .i64 result_kind) ∧ w'.cell? ⟨w4.heap.size, 2, none⟩ = some (.string result_name) ∧ w'.cell? ⟨w4.heap.size, 3, none⟩ = some (.slice result_labelsAx result_labelsNx result_labelsCx) ∧ w'.cell? ⟨w4.heap.size, 4, none⟩ = some (.slice result_kidsAx result_kidsNx result_kidsCx) ∧ w'.cell? ⟨w4.heap.size, 5, none⟩ = some (.bool async))
    (first | go_keep | exact ⟨(hby.cell (p := ⟨w.heap.size, 0, none⟩) hA).trans c_bA0, (hby.cell (p := ⟨w.heap.size, 1, none⟩) hA).trans c_bA1, (hby.cell (p := ⟨w.heap.size, 2, none⟩) hA).trans c_bA2, (hby.cell (p := ⟨w.heap.size, 3, none⟩) hA).trans c_bA3, (hby.cell (p := ⟨w.heap.size, 4, none⟩) hA).trans c_bA4, (hby.cell (p := ⟨w.heap.size, 5, none⟩) hA).trans c_bA5, (hby.cell (p := ⟨w4.heap.size, 0, none⟩) hX).trans c_bX0, (hby.cell (p := ⟨w4.heap.size, 1, none⟩) hX).trans c_bX1, (hby.cell (p := ⟨w4.heap.size, 2, none⟩) hX).trans c_bX2, (hby.cell (p := ⟨w4.heap.size, 3, none⟩) hX).trans c_bX3, (hby.cell (p := ⟨w4.heap.size, 4, none⟩) hX).trans c_bX4, (hby.cell (p := ⟨w4.heap.size, 5, none⟩) hX).trans c_bX5⟩ | exact ⟨(hbyz.cell (p := ⟨w.heap.size, 0, none⟩) hA).trans c_bA0, (hbyz.cell (p := ⟨w.heap.size, 1, none⟩) hA).trans c_bA1, (hbyz.cell (p := ⟨w.heap.size, 2, none⟩) hA).trans c_bA2, (hbyz.cell (p := ⟨w.heap.size, 3, none⟩) hA).trans c_bA3, (hbyz.cell (p := ⟨w.heap.size, 4, none⟩) hA).trans c_bA4, (hbyz.cell (p := ⟨w.heap.size, 5, none⟩) hA).trans c_bA5, (hbyz.cell (p := ⟨w4.heap.size, 0, none⟩) hX).trans c_bX0, (hbyz.cell (p := ⟨w4.heap.size, 1, none⟩) hX).trans c_bX1, (hbyz.cell (p := ⟨w4.heap.size, 2, none⟩) hX).trans c_bX2, (hbyz.cell (p := ⟨w4.heap.size, 3, none⟩) hX).trans c_bX3, (hbyz.cell (p := ⟨w4.heap.size, 4, none⟩) hX).trans c_bX4, (hbyz.cell (p := ⟨w4.heap.size, 5, none⟩) hX).trans c_bX5⟩)
    (first | (go_at_call 60; refine TC.out.mono ?_; rintro e wy ⟨uy, rfl, Ly, hby⟩; have Ky := Ly; obtain ⟨paramsAy, paramsNy, paramsCy, result_labelsAy, result_labelsNy, result_labelsCy, result_kidsAy, result_kidsNy, result_kidsCy, rfl⟩ := FuncType.lopen Ky; have Lxy := Lx.step ((Below.refl w7.heap.size w7).drew.trans hby)) | (go_at_call 62; refine (eqFuncType_all _ wy.heap.size [.slice paramsAx paramsNx paramsCx, .int .i64 result_kind, .string result_name, .slice result_labelsAx result_labelsNx result_labelsCx, .slice result_kidsAx result_kidsNx result_kidsCx, .bool async] [.slice paramsAy paramsNy paramsCy, .int .i64 result_kind, .string result_name, .slice result_labelsAy result_labelsNy result_labelsCy, .slice result_kidsAy result_kidsNy result_kidsCy, .bool async] _ (Nat.le_refl _) (by exact Lxy.is) (by exact Ly.is)).mono ?_; rintro e w8 ⟨rfl, hbz⟩; have hbyz : Below w7.heap.size w7 w8 := ((Below.refl _ _).drew.trans hby).trans (hbz.mono hby.size)))
  have hb8 := hbyz
  have hs8 := hb8.size
  have hB8 := hB7.trans (hb8.mono hB7.size)
  replace Gw := Gw.step hb8
  replace Lx := Lx.step hb8
  replace Gg := Gg.step hb8
  replace bA := bA.step hb8
  replace bX := bX.step hb8
  clear c_bA0 c_bA1 c_bA2 c_bA3 c_bA4 c_bA5 c_bX0 c_bX1 c_bX2 c_bX3 c_bX4 c_bX5
  have d_bX0 : w8.cell? ⟨w4.heap.size, 0, none⟩ = some (.slice paramsAx paramsNx paramsCx) := bX.cell 0
  have d_bX1 : w8.cell? ⟨w4.heap.size, 1, none⟩ = some (.int .i64 result_kind) := bX.cell 1
  have d_bX2 : w8.cell? ⟨w4.heap.size, 2, none⟩ = some (.string result_name) := bX.cell 2
  have d_bX3 : w8.cell? ⟨w4.heap.size, 3, none⟩ = some (.slice result_labelsAx result_labelsNx result_labelsCx) := bX.cell 3
  have d_bX4 : w8.cell? ⟨w4.heap.size, 4, none⟩ = some (.slice result_kidsAx result_kidsNx result_kidsCx) := bX.cell 4
  have d_bX5 : w8.cell? ⟨w4.heap.size, 5, none⟩ = some (.bool async) := bX.cell 5
  go_wp2_with fail
  clear d_bX0 d_bX1 d_bX2 d_bX3 d_bX4 d_bX5
  obtain ⟨Fx, hx1, hx2, hx3⟩ := Lx
  refine (markFuncType_all _ [.slice paramsAx paramsNx paramsCx, .int .i64 result_kind, .string result_name, .slice result_labelsAx result_labelsNx result_labelsCx, .slice result_kidsAx result_kidsNx result_kidsCx, .bool async] Fx _ 1 (by omega) (by rw [← Q.out]; omega) hx1 hx2.1 (fun b hb => Nat.lt_of_lt_of_le (hx2.2 b hb).2 hx3)).mono ?_
  rintro e w9 ⟨rfl, _, kf⟩
  rw [← Q.out]
  have kk : Keep w3.heap.size w4.heap.size w8 w9 := kf.keep hx2.2
  have hs9 := kk.size
  have hB9 := hB8.trans ((kk.below (by omega)).mono (by omega))
  replace Gw := Gw.kept kk (by omega)
  replace Gg := Gg.kept kk (by omega)
  replace bA := bA.keepF kf (fun hm => by have := hx2.2 _ hm; omega)
  clear kf kk hx1 hx2 hx3
  have hk0 : ¬ (1 + (q : Int)) < 0 := by omega
  go_wp2_with fail
  refine (eqTypeS_all rs w9.heap.size _ _ _ (Nat.le_refl _) Gg.is Gw.is).mono ?_
  rintro e w10 ⟨rfl, hb10⟩
  have hs10 := hb10.size
  have hB10 := hB9.trans (hb10.mono hB9.size)
  replace Gw := Gw.step hb10
  replace Gg := Gg.step hb10
  replace bA := bA.step hb10
  go_wp2_with fail
  have GI := Lib.hid Gg
  obtain ⟨Fg, hg1, hg2, hg3⟩ := Gg
  refine (markTypeS_all rs _ Fg _ 1 (by omega) (by rw [← M.out]; omega) hg1 hg2.1 (fun b hb => Nat.lt_of_lt_of_le (hg2.2 b hb).2 hg3)).mono ?_
  rintro e w11 ⟨rfl, hgm, kf⟩
  rw [← M.out]
  have hs11 := kf.size
  have kk : Keep _ _ w10 w11 := kf.keep hg2.2
  have hB11 := hB10.trans ((kk.below (by omega)).mono (by omega))
  replace Gw := Gw.kept kk (by omega)
  have Gm : Lv w11 _ _ ((PD.row 4 (rs.flatMap Ty.pd)).mark 1) _ := ⟨Fg, hgm, hg2, Nat.le_trans hg3 kf.size⟩
  replace bA := bA.keepF kf (fun hm => by have := hg2.2 _ hm; omega)
  clear kf kk hg1 hg2 hg3 hgm
  have hk1 : ¬ (1 + (m : Int)) < 0 := by omega
  have hqm : ((1 + (m : Int)) != (1 + (m : Int))) = false := by simp
  go_wp2_with fail
  refine (heldTypeS_all rs w11.heap.size _ _ 1 (by omega) (by rw [← M.out]; omega) (Nat.le_refl _) Gm.is).mono ?_
  rintro e w12 ⟨rfl, hb12⟩
  have hs12 := hb12.size
  have hB12 := hB11.trans (hb12.mono hB11.size)
  replace Gw := Gw.step hb12
  replace Gm := Gm.step hb12
  replace bA := bA.step hb12
  rw [← M.out]
  have e_bA0 : w12.cell? ⟨w.heap.size, 0, none⟩ = some (paramsV) := bA.cell 0
  have e_bA1 : w12.cell? ⟨w.heap.size, 1, none⟩ = some (.int .i64 result_kind) := bA.cell 1
  have e_bA2 : w12.cell? ⟨w.heap.size, 2, none⟩ = some (.string result_name) := bA.cell 2
  have e_bA3 : w12.cell? ⟨w.heap.size, 3, none⟩ = some (result_labelsV) := bA.cell 3
  have e_bA4 : w12.cell? ⟨w.heap.size, 4, none⟩ = some (result_kidsV) := bA.cell 4
  have e_bA5 : w12.cell? ⟨w.heap.size, 5, none⟩ = some (.bool async) := bA.cell 5
  go_wp2_with fail
  clear e_bA0 e_bA1 e_bA2 e_bA3 e_bA4 e_bA5
  refine (toFuncType_all _ w.heap.size [paramsV, .int .i64 result_kind, .string result_name, result_labelsV, result_kidsV, .bool async] _ hB12.size (by rw [← Z.out]; exact ht) (R0.out.below hB12)).mono ?_
  rintro e w13 ⟨uh, rfl, Lh, hb13⟩
  have hs13 := hb13.size
  have hB13 := hB12.trans (hb13.mono hB12.size)
  replace Gw := Gw.step hb13
  replace Gm := Gm.step hb13
  replace bA := bA.step hb13
  have Kh := Lh
  obtain ⟨paramsAh, paramsNh, paramsCh, result_labelsAh, result_labelsNh, result_labelsCh, result_kidsAh, result_kidsNh, result_kidsCh, rfl⟩ := FuncType.lopen Kh
  clear Kh
  go_wp2_with fail
  refine (IM'.out w13.heap.size [.slice paramsAh paramsNh paramsCh, .int .i64 result_kind, .string result_name, .slice result_labelsAh result_labelsNh result_labelsCh, .slice result_kidsAh result_kidsNh result_kidsCh, .bool async] _ (Nat.le_refl _) Lh.is).mono ?_
  rintro e w14 ⟨vh, rfl, Gh, hb14⟩
  have hs14 := hb14.size
  have hB14 := hB13.trans (hb14.mono hB13.size)
  replace Gw := Gw.step hb14
  replace Gm := Gm.step hb14
  replace Lh := Lh.step hb14
  replace bA := bA.step hb14
  obtain ⟨Ah, nh, ch, rfl⟩ := Gh.form
  clear Lh
  go_wp2_with fail
  refine (eqTypeS_all rs w14.heap.size _ _ _ (Nat.le_refl _) Gh.is Gw.is).mono ?_
  rintro e w15 ⟨rfl, hb15⟩
  have hs15 := hb15.size
  have hB15 := hB14.trans (hb15.mono hB14.size)
  replace Gw := Gw.step hb15
  replace Gm := Gm.step hb15
  replace Gh := Gh.step hb15
  replace bA := bA.step hb15
  go_wp2_with fail
  refine (heldTypeS_all rs w15.heap.size _ _ 1 (by omega) (by rw [← M.out]; omega) (Nat.le_refl _) Gm.is).mono ?_
  rintro e w16 ⟨rfl, hb16⟩
  have hs16 := hb16.size
  have hB16 := hB15.trans (hb16.mono hB15.size)
  replace Gw := Gw.step hb16
  replace Gm := Gm.step hb16
  replace Gh := Gh.step hb16
  replace bA := bA.step hb16
  rw [← M.out]
  go_wp2_with fail
  go_ret
  exact ⟨rfl, hB16⟩

end Go.Proofs.Ytmmeaakhikcigaa
