/-
  FnExactWhyNotFunc: the law's walk (by program: lawgen2.py).
-/
import Derived.Test.YtbafphecjijdmaaGreatDoorArg
import Derived.Test.YtbafphecjijdmaaGreatDoorSz
import Derived.Test.YtbafphecjijdmaaGreatDoorTo
import Derived.Test.YtbafphecjijdmaaGreatDoorEq
import Derived.Test.YtbafphecjijdmaaGreatDoorWyFE
namespace Go.Proofs.YtbafphecjijdmaaGreatDoor
open Go.RowKit
set_option linter.unusedVariables false
set_option linter.unusedSimpArgs false
set_option linter.unnecessarySimpa false
set_option maxRecDepth 100000

set_option maxHeartbeats 6400000 in
theorem walk_FnExactWhyNotFunc (w : World) (hT : TabP w) (v0 : Value) (h0 : ArgFuncType w v0) (v1 : Value) (h1 : ArgFuncType w v1) :
    Calls Tryz.prog 6 #[v0, v1] w fun e w' => e = .returned (.bool true) ∧ Below w.heap.size w w' := by
  obtain ⟨t, cs, rfl, hwf, hr⟩ := h0
  obtain ⟨params, ⟨result_kind, result_name, result_labels, result_kids⟩, async⟩ := t
  obtain ⟨paramsV, result_labelsV, result_kidsV, rfl, _, _, _⟩ := FuncType.open_ hr
  have WF0 := Lib.hid hwf
  have R0 := Lib.hid hr
  clear hwf hr
  obtain ⟨z0, hz⟩ : ∃ z : Nat, z = PD.szL (FuncType.pd ⟨params, ⟨result_kind, result_name, result_labels, result_kids⟩, async⟩) := ⟨_, rfl⟩
  have Z0 := Lib.hid hz
  clear hz
  obtain ⟨t, cs, rfl, hwf, hr⟩ := h1
  obtain ⟨Zparams, ⟨Zresult_kind, Zresult_name, Zresult_labels, Zresult_kids⟩, Zasync⟩ := t
  obtain ⟨ZparamsV, Zresult_labelsV, Zresult_kidsV, rfl, _, _, _⟩ := FuncType.open_ hr
  have WF1 := Lib.hid hwf
  have R1 := Lib.hid hr
  clear hwf hr
  obtain ⟨z1, hz⟩ : ∃ z : Nat, z = PD.szL (FuncType.pd ⟨Zparams, ⟨Zresult_kind, Zresult_name, Zresult_labels, Zresult_kids⟩, Zasync⟩) := ⟨_, rfl⟩
  have Z1 := Lib.hid hz
  clear hz
  by_cases ht0 : z0 ≤ 1048576
  case neg =>
    go_enter Tryz.func6, Tryz.ntmps6
    go_wp2_with fail
    obtain ⟨w0, hw0⟩ : ∃ W, W = ((w.alloc (.cells #[paramsV, .int .i64 result_kind, .string result_name, result_labelsV, result_kidsV, .bool async] 54)).alloc (.cells #[ZparamsV, .int .i64 Zresult_kind, .string Zresult_name, Zresult_labelsV, Zresult_kidsV, .bool Zasync] 54)) := ⟨_, rfl⟩
    rw [← hw0]
    have hB0 : Below w.heap.size w w0 := by rw [hw0]; exact ((Below.refl _ _).alloc (Nat.le_refl _) _).alloc (by simp) _
    have b0 : Blk w0 w.heap.size 54 #[paramsV, .int .i64 result_kind, .string result_name, result_labelsV, result_kidsV, .bool async] := by rw [hw0]; exact ((Blk.new w _ _).alloc _)
    have b1 : Blk w0 (w.heap.size + 1) 54 #[ZparamsV, .int .i64 Zresult_kind, .string Zresult_name, Zresult_labelsV, Zresult_kidsV, .bool Zasync] := by rw [hw0]; exact by simpa using (Blk.new (w.alloc (.cells #[paramsV, .int .i64 result_kind, .string result_name, result_labelsV, result_kidsV, .bool async] 54)) _ _)
    clear hw0
    have hs0 := hB0.size
    have hl0 := b0.lt
    refine (szFuncType_all _ w.heap.size [paramsV, .int .i64 result_kind, .string result_name, result_labelsV, result_kidsV, .bool async] _ (1048576) (by omega) (by omega) hB0.size WF0.out (R0.out.below hB0)).mono ?_
    rintro e w1 ⟨rfl, hb1⟩
    have hs1 := hb1.size
    have hB1 := hB0.trans (hb1.mono hB0.size)
    replace b0 := b0.step hb1
    replace b1 := b1.step hb1
    rw [← Z0.out, szLeft_no (by omega)]
    go_wp2_with fail
    go_ret
    exact ⟨rfl, hB1⟩
  by_cases ht1 : z0 + z1 ≤ 1048576
  case neg =>
    go_enter Tryz.func6, Tryz.ntmps6
    go_wp2_with fail
    obtain ⟨w0, hw0⟩ : ∃ W, W = ((w.alloc (.cells #[paramsV, .int .i64 result_kind, .string result_name, result_labelsV, result_kidsV, .bool async] 54)).alloc (.cells #[ZparamsV, .int .i64 Zresult_kind, .string Zresult_name, Zresult_labelsV, Zresult_kidsV, .bool Zasync] 54)) := ⟨_, rfl⟩
    rw [← hw0]
    have hB0 : Below w.heap.size w w0 := by rw [hw0]; exact ((Below.refl _ _).alloc (Nat.le_refl _) _).alloc (by simp) _
    have b0 : Blk w0 w.heap.size 54 #[paramsV, .int .i64 result_kind, .string result_name, result_labelsV, result_kidsV, .bool async] := by rw [hw0]; exact ((Blk.new w _ _).alloc _)
    have b1 : Blk w0 (w.heap.size + 1) 54 #[ZparamsV, .int .i64 Zresult_kind, .string Zresult_name, Zresult_labelsV, Zresult_kidsV, .bool Zasync] := by rw [hw0]; exact by simpa using (Blk.new (w.alloc (.cells #[paramsV, .int .i64 result_kind, .string result_name, result_labelsV, result_kidsV, .bool async] 54)) _ _)
    clear hw0
    have hs0 := hB0.size
    have hl0 := b0.lt
    refine (szFuncType_all _ w.heap.size [paramsV, .int .i64 result_kind, .string result_name, result_labelsV, result_kidsV, .bool async] _ (1048576) (by omega) (by omega) hB0.size WF0.out (R0.out.below hB0)).mono ?_
    rintro e w1 ⟨rfl, hb1⟩
    have hs1 := hb1.size
    have hB1 := hB0.trans (hb1.mono hB0.size)
    replace b0 := b0.step hb1
    replace b1 := b1.step hb1
    rw [← Z0.out, szLeft_yes (by omega)]
    have hp0 : (0 : Int) ≤ 1048576 - (z0 : Int) := by omega
    have c1_b00 : w1.cell? ⟨w.heap.size, 0, none⟩ = some (paramsV) := b0.cell 0
    have c2_b01 : w1.cell? ⟨w.heap.size, 1, none⟩ = some (.int .i64 result_kind) := b0.cell 1
    have c3_b02 : w1.cell? ⟨w.heap.size, 2, none⟩ = some (.string result_name) := b0.cell 2
    have c4_b03 : w1.cell? ⟨w.heap.size, 3, none⟩ = some (result_labelsV) := b0.cell 3
    have c5_b04 : w1.cell? ⟨w.heap.size, 4, none⟩ = some (result_kidsV) := b0.cell 4
    have c6_b05 : w1.cell? ⟨w.heap.size, 5, none⟩ = some (.bool async) := b0.cell 5
    have c7_b10 : w1.cell? ⟨(w.heap.size + 1), 0, none⟩ = some (ZparamsV) := b1.cell 0
    have c8_b11 : w1.cell? ⟨(w.heap.size + 1), 1, none⟩ = some (.int .i64 Zresult_kind) := b1.cell 1
    have c9_b12 : w1.cell? ⟨(w.heap.size + 1), 2, none⟩ = some (.string Zresult_name) := b1.cell 2
    have c10_b13 : w1.cell? ⟨(w.heap.size + 1), 3, none⟩ = some (Zresult_labelsV) := b1.cell 3
    have c11_b14 : w1.cell? ⟨(w.heap.size + 1), 4, none⟩ = some (Zresult_kidsV) := b1.cell 4
    have c12_b15 : w1.cell? ⟨(w.heap.size + 1), 5, none⟩ = some (.bool Zasync) := b1.cell 5
    go_wp2_with fail
    clear c1_b00 c2_b01 c3_b02 c4_b03 c5_b04 c6_b05 c7_b10 c8_b11 c9_b12 c10_b13 c11_b14 c12_b15
    refine (szFuncType_all _ w.heap.size [ZparamsV, .int .i64 Zresult_kind, .string Zresult_name, Zresult_labelsV, Zresult_kidsV, .bool Zasync] _ (1048576 - (z0 : Int)) (by omega) (by omega) hB1.size WF1.out (R1.out.below hB1)).mono ?_
    rintro e w2 ⟨rfl, hb2⟩
    have hs2 := hb2.size
    have hB2 := hB1.trans (hb2.mono hB1.size)
    replace b0 := b0.step hb2
    replace b1 := b1.step hb2
    rw [← Z1.out, szLeft_no (by omega)]
    go_wp2_with fail
    go_ret
    exact ⟨rfl, hB2⟩
  have SP := specWhyNotFunc_ok (⟨params, ⟨result_kind, result_name, result_labels, result_kids⟩, async⟩ : FuncType) (⟨Zparams, ⟨Zresult_kind, Zresult_name, Zresult_labels, Zresult_kids⟩, Zasync⟩ : FuncType) WF0.out (by rw [← Z0.out]; omega) WF1.out (by rw [← Z1.out]; omega)
  have IM := implWhyNotFunc_ok (⟨params, ⟨result_kind, result_name, result_labels, result_kids⟩, async⟩ : FuncType) (⟨Zparams, ⟨Zresult_kind, Zresult_name, Zresult_labels, Zresult_kids⟩, Zasync⟩ : FuncType) WF0.out (by rw [← Z0.out]; omega) WF1.out (by rw [← Z1.out]; omega)
  obtain ⟨rr, hrr⟩ : ∃ r : Reason, r = whyRs (whyFuncR ⟨params, ⟨result_kind, result_name, result_labels, result_kids⟩, async⟩ ⟨Zparams, ⟨Zresult_kind, Zresult_name, Zresult_labels, Zresult_kids⟩, Zasync⟩) := ⟨_, rfl⟩
  rw [← hrr] at SP IM
  clear hrr
  obtain ⟨r_kind, r_at_⟩ := rr
  obtain ⟨r1, hrr⟩ : ∃ r : Bool, r = whyB (whyFuncR ⟨params, ⟨result_kind, result_name, result_labels, result_kids⟩, async⟩ ⟨Zparams, ⟨Zresult_kind, Zresult_name, Zresult_labels, Zresult_kids⟩, Zasync⟩) := ⟨_, rfl⟩
  rw [← hrr] at SP IM
  clear hrr
  have hne1 : (r1 != r1) = false := by simp
  have SP' := Lib.hid SP
  have IM' := Lib.hid IM
  clear SP IM
  go_enter Tryz.func6, Tryz.ntmps6
  go_wp2_with fail
  obtain ⟨w0, hw0⟩ : ∃ W, W = ((w.alloc (.cells #[paramsV, .int .i64 result_kind, .string result_name, result_labelsV, result_kidsV, .bool async] 54)).alloc (.cells #[ZparamsV, .int .i64 Zresult_kind, .string Zresult_name, Zresult_labelsV, Zresult_kidsV, .bool Zasync] 54)) := ⟨_, rfl⟩
  rw [← hw0]
  have hB0 : Below w.heap.size w w0 := by rw [hw0]; exact ((Below.refl _ _).alloc (Nat.le_refl _) _).alloc (by simp) _
  have b0 : Blk w0 w.heap.size 54 #[paramsV, .int .i64 result_kind, .string result_name, result_labelsV, result_kidsV, .bool async] := by rw [hw0]; exact ((Blk.new w _ _).alloc _)
  have b1 : Blk w0 (w.heap.size + 1) 54 #[ZparamsV, .int .i64 Zresult_kind, .string Zresult_name, Zresult_labelsV, Zresult_kidsV, .bool Zasync] := by rw [hw0]; exact by simpa using (Blk.new (w.alloc (.cells #[paramsV, .int .i64 result_kind, .string result_name, result_labelsV, result_kidsV, .bool async] 54)) _ _)
  clear hw0
  have hs0 := hB0.size
  have hl0 := b0.lt
  refine (szFuncType_all _ w.heap.size [paramsV, .int .i64 result_kind, .string result_name, result_labelsV, result_kidsV, .bool async] _ (1048576) (by omega) (by omega) hB0.size WF0.out (R0.out.below hB0)).mono ?_
  rintro e w1 ⟨rfl, hb1⟩
  have hs1 := hb1.size
  have hB1 := hB0.trans (hb1.mono hB0.size)
  replace b0 := b0.step hb1
  replace b1 := b1.step hb1
  rw [← Z0.out, szLeft_yes (by omega)]
  have hp0 : (0 : Int) ≤ 1048576 - (z0 : Int) := by omega
  have c13_b00 : w1.cell? ⟨w.heap.size, 0, none⟩ = some (paramsV) := b0.cell 0
  have c14_b01 : w1.cell? ⟨w.heap.size, 1, none⟩ = some (.int .i64 result_kind) := b0.cell 1
  have c15_b02 : w1.cell? ⟨w.heap.size, 2, none⟩ = some (.string result_name) := b0.cell 2
  have c16_b03 : w1.cell? ⟨w.heap.size, 3, none⟩ = some (result_labelsV) := b0.cell 3
  have c17_b04 : w1.cell? ⟨w.heap.size, 4, none⟩ = some (result_kidsV) := b0.cell 4
  have c18_b05 : w1.cell? ⟨w.heap.size, 5, none⟩ = some (.bool async) := b0.cell 5
  have c19_b10 : w1.cell? ⟨(w.heap.size + 1), 0, none⟩ = some (ZparamsV) := b1.cell 0
  have c20_b11 : w1.cell? ⟨(w.heap.size + 1), 1, none⟩ = some (.int .i64 Zresult_kind) := b1.cell 1
  have c21_b12 : w1.cell? ⟨(w.heap.size + 1), 2, none⟩ = some (.string Zresult_name) := b1.cell 2
  have c22_b13 : w1.cell? ⟨(w.heap.size + 1), 3, none⟩ = some (Zresult_labelsV) := b1.cell 3
  have c23_b14 : w1.cell? ⟨(w.heap.size + 1), 4, none⟩ = some (Zresult_kidsV) := b1.cell 4
  have c24_b15 : w1.cell? ⟨(w.heap.size + 1), 5, none⟩ = some (.bool Zasync) := b1.cell 5
  go_wp2_with fail
  clear c13_b00 c14_b01 c15_b02 c16_b03 c17_b04 c18_b05 c19_b10 c20_b11 c21_b12 c22_b13 c23_b14 c24_b15
  refine (szFuncType_all _ w.heap.size [ZparamsV, .int .i64 Zresult_kind, .string Zresult_name, Zresult_labelsV, Zresult_kidsV, .bool Zasync] _ (1048576 - (z0 : Int)) (by omega) (by omega) hB1.size WF1.out (R1.out.below hB1)).mono ?_
  rintro e w2 ⟨rfl, hb2⟩
  have hs2 := hb2.size
  have hB2 := hB1.trans (hb2.mono hB1.size)
  replace b0 := b0.step hb2
  replace b1 := b1.step hb2
  rw [← Z1.out, szLeft_yes (by omega)]
  have hp1 : (0 : Int) ≤ 1048576 - (z0 : Int) - (z1 : Int) := by omega
  have c25_b00 : w2.cell? ⟨w.heap.size, 0, none⟩ = some (paramsV) := b0.cell 0
  have c26_b01 : w2.cell? ⟨w.heap.size, 1, none⟩ = some (.int .i64 result_kind) := b0.cell 1
  have c27_b02 : w2.cell? ⟨w.heap.size, 2, none⟩ = some (.string result_name) := b0.cell 2
  have c28_b03 : w2.cell? ⟨w.heap.size, 3, none⟩ = some (result_labelsV) := b0.cell 3
  have c29_b04 : w2.cell? ⟨w.heap.size, 4, none⟩ = some (result_kidsV) := b0.cell 4
  have c30_b05 : w2.cell? ⟨w.heap.size, 5, none⟩ = some (.bool async) := b0.cell 5
  have c31_b10 : w2.cell? ⟨(w.heap.size + 1), 0, none⟩ = some (ZparamsV) := b1.cell 0
  have c32_b11 : w2.cell? ⟨(w.heap.size + 1), 1, none⟩ = some (.int .i64 Zresult_kind) := b1.cell 1
  have c33_b12 : w2.cell? ⟨(w.heap.size + 1), 2, none⟩ = some (.string Zresult_name) := b1.cell 2
  have c34_b13 : w2.cell? ⟨(w.heap.size + 1), 3, none⟩ = some (Zresult_labelsV) := b1.cell 3
  have c35_b14 : w2.cell? ⟨(w.heap.size + 1), 4, none⟩ = some (Zresult_kidsV) := b1.cell 4
  have c36_b15 : w2.cell? ⟨(w.heap.size + 1), 5, none⟩ = some (.bool Zasync) := b1.cell 5
  go_wp2_with fail
  clear c25_b00 c26_b01 c27_b02 c28_b03 c29_b04 c30_b05 c31_b10 c32_b11 c33_b12 c34_b13 c35_b14 c36_b15
  have c37_b00 : w2.cell? ⟨w.heap.size, 0, none⟩ = some (paramsV) := b0.cell 0
  have c38_b01 : w2.cell? ⟨w.heap.size, 1, none⟩ = some (.int .i64 result_kind) := b0.cell 1
  have c39_b02 : w2.cell? ⟨w.heap.size, 2, none⟩ = some (.string result_name) := b0.cell 2
  have c40_b03 : w2.cell? ⟨w.heap.size, 3, none⟩ = some (result_labelsV) := b0.cell 3
  have c41_b04 : w2.cell? ⟨w.heap.size, 4, none⟩ = some (result_kidsV) := b0.cell 4
  have c42_b05 : w2.cell? ⟨w.heap.size, 5, none⟩ = some (.bool async) := b0.cell 5
  have c43_b10 : w2.cell? ⟨(w.heap.size + 1), 0, none⟩ = some (ZparamsV) := b1.cell 0
  have c44_b11 : w2.cell? ⟨(w.heap.size + 1), 1, none⟩ = some (.int .i64 Zresult_kind) := b1.cell 1
  have c45_b12 : w2.cell? ⟨(w.heap.size + 1), 2, none⟩ = some (.string Zresult_name) := b1.cell 2
  have c46_b13 : w2.cell? ⟨(w.heap.size + 1), 3, none⟩ = some (Zresult_labelsV) := b1.cell 3
  have c47_b14 : w2.cell? ⟨(w.heap.size + 1), 4, none⟩ = some (Zresult_kidsV) := b1.cell 4
  have c48_b15 : w2.cell? ⟨(w.heap.size + 1), 5, none⟩ = some (.bool Zasync) := b1.cell 5
  have lt_b0 := b0.lt
  have lt_b1 := b1.lt
  have HSS : Hid (∀ V, Below w2.heap.size w2 V → V.cell? ⟨w.heap.size, 0, none⟩ = some (paramsV) ∧ V.cell? ⟨w.heap.size, 1, none⟩ = some (.int .i64 result_kind) ∧ V.cell? ⟨w.heap.size, 2, none⟩ = some (.string result_name) ∧ V.cell? ⟨w.heap.size, 3, none⟩ = some (result_labelsV) ∧ V.cell? ⟨w.heap.size, 4, none⟩ = some (result_kidsV) ∧ V.cell? ⟨w.heap.size, 5, none⟩ = some (.bool async) ∧ V.cell? ⟨(w.heap.size + 1), 0, none⟩ = some (ZparamsV) ∧ V.cell? ⟨(w.heap.size + 1), 1, none⟩ = some (.int .i64 Zresult_kind) ∧ V.cell? ⟨(w.heap.size + 1), 2, none⟩ = some (.string Zresult_name) ∧ V.cell? ⟨(w.heap.size + 1), 3, none⟩ = some (Zresult_labelsV) ∧ V.cell? ⟨(w.heap.size + 1), 4, none⟩ = some (Zresult_kidsV) ∧ V.cell? ⟨(w.heap.size + 1), 5, none⟩ = some (.bool Zasync)) := Lib.hid fun V hV => ⟨(hV.cell (p := ⟨w.heap.size, 0, none⟩) lt_b0).trans c37_b00, (hV.cell (p := ⟨w.heap.size, 1, none⟩) lt_b0).trans c38_b01, (hV.cell (p := ⟨w.heap.size, 2, none⟩) lt_b0).trans c39_b02, (hV.cell (p := ⟨w.heap.size, 3, none⟩) lt_b0).trans c40_b03, (hV.cell (p := ⟨w.heap.size, 4, none⟩) lt_b0).trans c41_b04, (hV.cell (p := ⟨w.heap.size, 5, none⟩) lt_b0).trans c42_b05, (hV.cell (p := ⟨(w.heap.size + 1), 0, none⟩) lt_b1).trans c43_b10, (hV.cell (p := ⟨(w.heap.size + 1), 1, none⟩) lt_b1).trans c44_b11, (hV.cell (p := ⟨(w.heap.size + 1), 2, none⟩) lt_b1).trans c45_b12, (hV.cell (p := ⟨(w.heap.size + 1), 3, none⟩) lt_b1).trans c46_b13, (hV.cell (p := ⟨(w.heap.size + 1), 4, none⟩) lt_b1).trans c47_b14, (hV.cell (p := ⟨(w.heap.size + 1), 5, none⟩) lt_b1).trans c48_b15⟩
  go_region_held3 (fun w' => w'.cell? ⟨w.heap.size, 0, none⟩ = some (paramsV) ∧ w'.cell? ⟨w.heap.size, 1, none⟩ = some (.int .i64 result_kind) ∧ w'.cell? ⟨w.heap.size, 2, none⟩ = some (.string result_name) ∧ w'.cell? ⟨w.heap.size, 3, none⟩ = some (result_labelsV) ∧ w'.cell? ⟨w.heap.size, 4, none⟩ = some (result_kidsV) ∧ w'.cell? ⟨w.heap.size, 5, none⟩ = some (.bool async) ∧ w'.cell? ⟨(w.heap.size + 1), 0, none⟩ = some (ZparamsV) ∧ w'.cell? ⟨(w.heap.size + 1), 1, none⟩ = some (.int .i64 Zresult_kind) ∧ w'.cell? ⟨(w.heap.size + 1), 2, none⟩ = some (.string Zresult_name) ∧ w'.cell? ⟨(w.heap.size + 1), 3, none⟩ = some (Zresult_labelsV) ∧ w'.cell? ⟨(w.heap.size + 1), 4, none⟩ = some (Zresult_kidsV) ∧ w'.cell? ⟨(w.heap.size + 1), 5, none⟩ = some (.bool Zasync))
    (first | exact HSS.out _ (by repeat (first | exact hwqZ | exact hwq1 | exact hwq0 | exact Below.refl _ _ | refine Below.drew ?_ | refine balloc ?_ _ | refine bset ?_ (Nat.le_refl _) _ _ | refine bset ?_ hwq0.size _ _ | refine bset ?_ hwq1.size _ _ | refine bset ?_ hwqZ.size _ _)))
    (first | (go_at_call_of 22 paramsV; refine (toFuncType_all _ w.heap.size [paramsV, .int .i64 result_kind, .string result_name, result_labelsV, result_kidsV, .bool async] _ (by first | exact hB2.drew.size | exact (hB2.drew.alloc hB2.drew.size _).size) (by rw [← Z0.out]; omega) (by first | exact R0.out.below hB2.drew | exact R0.out.below (hB2.drew.alloc hB2.drew.size _))).mono ?_; rintro e wq0 ⟨us0, rfl, Ls0, hbq⟩; have Ks0 := Ls0; obtain ⟨paramsAs0, paramsNs0, paramsCs0, result_labelsAs0, result_labelsNs0, result_labelsCs0, result_kidsAs0, result_kidsNs0, result_kidsCs0, rfl⟩ := FuncType.lopen Ks0; have hwq0 : Below w2.heap.size w2 wq0 := (by first | exact (Below.refl _ _).drew.trans hbq | exact ((Below.refl _ _).drew.alloc (Nat.le_refl _) _).trans (hbq.mono (by simp))); have hBwq0 := hB2.trans (hwq0.mono hB2.size); (first | (have bp0 : Blk wq0 w2.heap.size 34 #[.int .i64 0, .string { data := #[] }] := (Blk.new w2.drew _ _).step hbq) | skip)) | (go_at_call_of 22 ZparamsV; refine (toFuncType_all _ w.heap.size [ZparamsV, .int .i64 Zresult_kind, .string Zresult_name, Zresult_labelsV, Zresult_kidsV, .bool Zasync] _ (by first | exact hBwq0.size | exact (hBwq0.alloc hBwq0.size _).size) (by rw [← Z1.out]; omega) (by first | exact R1.out.below hBwq0 | exact R1.out.below (hBwq0.alloc hBwq0.size _))).mono ?_; rintro e wq1 ⟨us1, rfl, Ls1, hbq⟩; have Ks1 := Ls1; obtain ⟨ZparamsAs1, ZparamsNs1, ZparamsCs1, Zresult_labelsAs1, Zresult_labelsNs1, Zresult_labelsCs1, Zresult_kidsAs1, Zresult_kidsNs1, Zresult_kidsCs1, rfl⟩ := FuncType.lopen Ks1; have hwq1 : Below w2.heap.size w2 wq1 := (by first | exact hwq0.trans (hbq.mono hwq0.size) | exact (hwq0.alloc hwq0.size _).trans (hbq.mono (by simp; have := hwq0.size; omega))); have hBwq1 := hB2.trans (hwq1.mono hB2.size); replace Ls0 := (by first | exact Ls0.step hbq | exact (Ls0.step ((Below.refl _ _).alloc (Nat.le_refl _) _)).step hbq); (first | (replace bp0 := bp0.step hbq) | (have bp1 : Blk wq1 wq0.heap.size 34 #[.int .i64 0, .string { data := #[] }] := (Blk.new wq0 _ _).step hbq) | skip)) | (go_at_call 21; refine (SP'.out _ [.slice paramsAs0 paramsNs0 paramsCs0, .int .i64 result_kind, .string result_name, .slice result_labelsAs0 result_labelsNs0 result_labelsCs0, .slice result_kidsAs0 result_kidsNs0 result_kidsCs0, .bool async] [.slice ZparamsAs1 ZparamsNs1 ZparamsCs1, .int .i64 Zresult_kind, .string Zresult_name, .slice Zresult_labelsAs1 Zresult_labelsNs1 Zresult_labelsCs1, .slice Zresult_kidsAs1 Zresult_kidsNs1 Zresult_kidsCs1, .bool Zasync] _ (Nat.le_refl _) (hT.below (by first | exact hBwq1 | exact (hBwq1.alloc hBwq1.size _))) (by first | exact Ls0.is | exact (Ls0.step ((Below.refl _ _).alloc (Nat.le_refl _) _)).is) (by first | exact Ls1.is | exact (Ls1.step ((Below.refl _ _).alloc (Nat.le_refl _) _)).is)).mono ?_; rintro e wqZ ⟨vw, rfl, Gw, hbq⟩; have Kw := Gw; obtain rfl := Reason.lopen Kw; have hwqZ : Below w2.heap.size w2 wqZ := (by first | exact hwq1.trans (hbq.mono hwq1.size) | exact (hwq1.alloc hwq1.size _).trans (hbq.mono (by simp; have := hwq1.size; omega))); (first | (replace bp0 := bp0.step hbq) | (replace bp1 := bp1.step hbq) | (have bp2 : Blk wqZ wq1.heap.size 34 #[.int .i64 0, .string { data := #[] }] := (Blk.new wq1 _ _).step hbq) | skip); (first | (have pc0_0 : wqZ.cell? ⟨w2.heap.size, 0, none⟩ = some (.int .i64 0) := bp0.cell 0; have pc0_1 : wqZ.cell? ⟨w2.heap.size, 1, none⟩ = some (.string { data := #[] }) := bp0.cell 1; have pf0_0 : wqZ.frozen? ⟨w2.heap.size, 0, none⟩ = false := bp0.frozen 0; have pf0_1 : wqZ.frozen? ⟨w2.heap.size, 1, none⟩ = false := bp0.frozen 1) | skip); (first | (have pc1_0 : wqZ.cell? ⟨wq0.heap.size, 0, none⟩ = some (.int .i64 0) := bp1.cell 0; have pc1_1 : wqZ.cell? ⟨wq0.heap.size, 1, none⟩ = some (.string { data := #[] }) := bp1.cell 1; have pf1_0 : wqZ.frozen? ⟨wq0.heap.size, 0, none⟩ = false := bp1.frozen 0; have pf1_1 : wqZ.frozen? ⟨wq0.heap.size, 1, none⟩ = false := bp1.frozen 1) | skip); (first | (have pc2_0 : wqZ.cell? ⟨wq1.heap.size, 0, none⟩ = some (.int .i64 0) := bp2.cell 0; have pc2_1 : wqZ.cell? ⟨wq1.heap.size, 1, none⟩ = some (.string { data := #[] }) := bp2.cell 1; have pf2_0 : wqZ.frozen? ⟨wq1.heap.size, 0, none⟩ = false := bp2.frozen 0; have pf2_1 : wqZ.frozen? ⟨wq1.heap.size, 1, none⟩ = false := bp2.frozen 1) | skip)))
  all_goals
    first
      | (obtain ⟨w3, hwE⟩ : ∃ V, V = wqZ.alloc (.cells #[.int .i64 r_kind, .string r_at_] 34) := ⟨_, rfl⟩; rw [← hwE]; have bW : Blk w3 wqZ.heap.size 34 #[.int .i64 r_kind, .string r_at_] := (by rw [hwE]; exact Blk.new wqZ _ _); have hb3 : Below w2.heap.size w2 w3 := (by rw [hwE]; exact hwqZ.alloc hwqZ.size _); obtain ⟨rx, hrx⟩ : ∃ r, r = wqZ.heap.size := ⟨_, rfl⟩; rw [← hrx] at bW ⊢; clear hwE hrx)
      | (obtain ⟨w3, hwE⟩ : ∃ V, V = ((wqZ.setCell ⟨w2.heap.size, 0, none⟩ (.int .i64 r_kind)).setCell ⟨w2.heap.size, 1, none⟩ (.string r_at_)) := ⟨_, rfl⟩; rw [← hwE]; have bW : Blk w3 (w2.heap.size) 34 #[.int .i64 r_kind, .string r_at_] := (by rw [hwE]; have := ((bp0.set_ 0 (.int .i64 r_kind)).set_ 1 (.string r_at_)); simpa using this); have hb3 : Below w2.heap.size w2 w3 := (by rw [hwE]; exact (bset (bset hwqZ (Nat.le_refl _) 0 (.int .i64 r_kind)) (Nat.le_refl _) 1 (.string r_at_))); obtain ⟨rx, hrx⟩ : ∃ r, r = w2.heap.size := ⟨_, rfl⟩; rw [← hrx] at bW ⊢; clear hwE hrx)
      | (obtain ⟨w3, hwE⟩ : ∃ V, V = ((wqZ.setCell ⟨wq0.heap.size, 0, none⟩ (.int .i64 r_kind)).setCell ⟨wq0.heap.size, 1, none⟩ (.string r_at_)) := ⟨_, rfl⟩; rw [← hwE]; have bW : Blk w3 (wq0.heap.size) 34 #[.int .i64 r_kind, .string r_at_] := (by rw [hwE]; have := ((bp1.set_ 0 (.int .i64 r_kind)).set_ 1 (.string r_at_)); simpa using this); have hb3 : Below w2.heap.size w2 w3 := (by rw [hwE]; exact (bset (bset hwqZ hwq0.size 0 (.int .i64 r_kind)) hwq0.size 1 (.string r_at_))); obtain ⟨rx, hrx⟩ : ∃ r, r = wq0.heap.size := ⟨_, rfl⟩; rw [← hrx] at bW ⊢; clear hwE hrx)
      | (obtain ⟨w3, hwE⟩ : ∃ V, V = ((wqZ.setCell ⟨wq1.heap.size, 0, none⟩ (.int .i64 r_kind)).setCell ⟨wq1.heap.size, 1, none⟩ (.string r_at_)) := ⟨_, rfl⟩; rw [← hwE]; have bW : Blk w3 (wq1.heap.size) 34 #[.int .i64 r_kind, .string r_at_] := (by rw [hwE]; have := ((bp2.set_ 0 (.int .i64 r_kind)).set_ 1 (.string r_at_)); simpa using this); have hb3 : Below w2.heap.size w2 w3 := (by rw [hwE]; exact (bset (bset hwqZ hwq1.size 0 (.int .i64 r_kind)) hwq1.size 1 (.string r_at_))); obtain ⟨rx, hrx⟩ : ∃ r, r = wq1.heap.size := ⟨_, rfl⟩; rw [← hrx] at bW ⊢; clear hwE hrx)
    have hs3 := hb3.size
    have hB3 := hB2.trans (hb3.mono hB2.size)
    replace b0 := b0.step hb3
    replace b1 := b1.step hb3
    clear c37_b00 c38_b01 c39_b02 c40_b03 c41_b04 c42_b05 c43_b10 c44_b11 c45_b12 c46_b13 c47_b14 c48_b15
    clear HSS lt_b0 lt_b1
    have lb3 := bW.lt
    have Gw : LvC w3 w3.heap.size w3.heap.size (Reason.pd ⟨r_kind, r_at_⟩) [.int .i64 r_kind, .string r_at_] := ((LvC.nil w3 _ _ (Nat.le_refl _)).lit _).lit _
    have c49_b00 : w3.cell? ⟨w.heap.size, 0, none⟩ = some (paramsV) := b0.cell 0
    have c50_b01 : w3.cell? ⟨w.heap.size, 1, none⟩ = some (.int .i64 result_kind) := b0.cell 1
    have c51_b02 : w3.cell? ⟨w.heap.size, 2, none⟩ = some (.string result_name) := b0.cell 2
    have c52_b03 : w3.cell? ⟨w.heap.size, 3, none⟩ = some (result_labelsV) := b0.cell 3
    have c53_b04 : w3.cell? ⟨w.heap.size, 4, none⟩ = some (result_kidsV) := b0.cell 4
    have c54_b05 : w3.cell? ⟨w.heap.size, 5, none⟩ = some (.bool async) := b0.cell 5
    have c55_b10 : w3.cell? ⟨(w.heap.size + 1), 0, none⟩ = some (ZparamsV) := b1.cell 0
    have c56_b11 : w3.cell? ⟨(w.heap.size + 1), 1, none⟩ = some (.int .i64 Zresult_kind) := b1.cell 1
    have c57_b12 : w3.cell? ⟨(w.heap.size + 1), 2, none⟩ = some (.string Zresult_name) := b1.cell 2
    have c58_b13 : w3.cell? ⟨(w.heap.size + 1), 3, none⟩ = some (Zresult_labelsV) := b1.cell 3
    have c59_b14 : w3.cell? ⟨(w.heap.size + 1), 4, none⟩ = some (Zresult_kidsV) := b1.cell 4
    have c60_b15 : w3.cell? ⟨(w.heap.size + 1), 5, none⟩ = some (.bool Zasync) := b1.cell 5
    have c61_bW0 : w3.cell? ⟨rx, 0, none⟩ = some (.int .i64 r_kind) := bW.cell 0
    have c62_bW1 : w3.cell? ⟨rx, 1, none⟩ = some (.string r_at_) := bW.cell 1
    go_wp2_with fail
    clear c49_b00 c50_b01 c51_b02 c52_b03 c53_b04 c54_b05 c55_b10 c56_b11 c57_b12 c58_b13 c59_b14 c60_b15 c61_bW0 c62_bW1
    refine (toFuncType_all _ w.heap.size [paramsV, .int .i64 result_kind, .string result_name, result_labelsV, result_kidsV, .bool async] _ hB3.size (by rw [← Z0.out]; omega) (R0.out.below hB3)).mono ?_
    rintro e w4 ⟨ux0, rfl, Lx0, hb4⟩
    have hs4 := hb4.size
    have hB4 := hB3.trans (hb4.mono hB3.size)
    replace Gw := Gw.step hb4
    replace b0 := b0.step hb4
    replace b1 := b1.step hb4
    replace bW := bW.step hb4
    have Kx0 := Lx0
    obtain ⟨paramsAx0, paramsNx0, paramsCx0, result_labelsAx0, result_labelsNx0, result_labelsCx0, result_kidsAx0, result_kidsNx0, result_kidsCx0, rfl⟩ := FuncType.lopen Kx0
    clear Kx0
    obtain ⟨w5, hw5⟩ : ∃ W, W = (w4.alloc (.cells #[.slice paramsAx0 paramsNx0 paramsCx0, .int .i64 result_kind, .string result_name, .slice result_labelsAx0 result_labelsNx0 result_labelsCx0, .slice result_kidsAx0 result_kidsNx0 result_kidsCx0, .bool async] 62)) := ⟨_, rfl⟩
    have hb5 : Below w4.heap.size w4 w5 := by rw [hw5]; exact (Below.refl _ _).alloc (Nat.le_refl _) _
    have bX0 : Blk w5 w4.heap.size 62 #[.slice paramsAx0 paramsNx0 paramsCx0, .int .i64 result_kind, .string result_name, .slice result_labelsAx0 result_labelsNx0 result_labelsCx0, .slice result_kidsAx0 result_kidsNx0 result_kidsCx0, .bool async] := by rw [hw5]; exact Blk.new w4 _ _
    have HW5 := Lib.hid hw5
    clear hw5
    have lb5 := bX0.lt
    have hs5 := hb5.size
    have hB5 := hB4.trans (hb5.mono hB4.size)
    replace Gw := Gw.step hb5
    replace Lx0 := Lx0.step hb5
    replace b0 := b0.step hb5
    replace b1 := b1.step hb5
    replace bW := bW.step hb5
    have c63_b00 : (w4.alloc (.cells #[.slice paramsAx0 paramsNx0 paramsCx0, .int .i64 result_kind, .string result_name, .slice result_labelsAx0 result_labelsNx0 result_labelsCx0, .slice result_kidsAx0 result_kidsNx0 result_kidsCx0, .bool async] 62)).cell? ⟨w.heap.size, 0, none⟩ = some (paramsV) := by rw [← HW5.out]; exact b0.cell 0
    have c64_b01 : (w4.alloc (.cells #[.slice paramsAx0 paramsNx0 paramsCx0, .int .i64 result_kind, .string result_name, .slice result_labelsAx0 result_labelsNx0 result_labelsCx0, .slice result_kidsAx0 result_kidsNx0 result_kidsCx0, .bool async] 62)).cell? ⟨w.heap.size, 1, none⟩ = some (.int .i64 result_kind) := by rw [← HW5.out]; exact b0.cell 1
    have c65_b02 : (w4.alloc (.cells #[.slice paramsAx0 paramsNx0 paramsCx0, .int .i64 result_kind, .string result_name, .slice result_labelsAx0 result_labelsNx0 result_labelsCx0, .slice result_kidsAx0 result_kidsNx0 result_kidsCx0, .bool async] 62)).cell? ⟨w.heap.size, 2, none⟩ = some (.string result_name) := by rw [← HW5.out]; exact b0.cell 2
    have c66_b03 : (w4.alloc (.cells #[.slice paramsAx0 paramsNx0 paramsCx0, .int .i64 result_kind, .string result_name, .slice result_labelsAx0 result_labelsNx0 result_labelsCx0, .slice result_kidsAx0 result_kidsNx0 result_kidsCx0, .bool async] 62)).cell? ⟨w.heap.size, 3, none⟩ = some (result_labelsV) := by rw [← HW5.out]; exact b0.cell 3
    have c67_b04 : (w4.alloc (.cells #[.slice paramsAx0 paramsNx0 paramsCx0, .int .i64 result_kind, .string result_name, .slice result_labelsAx0 result_labelsNx0 result_labelsCx0, .slice result_kidsAx0 result_kidsNx0 result_kidsCx0, .bool async] 62)).cell? ⟨w.heap.size, 4, none⟩ = some (result_kidsV) := by rw [← HW5.out]; exact b0.cell 4
    have c68_b05 : (w4.alloc (.cells #[.slice paramsAx0 paramsNx0 paramsCx0, .int .i64 result_kind, .string result_name, .slice result_labelsAx0 result_labelsNx0 result_labelsCx0, .slice result_kidsAx0 result_kidsNx0 result_kidsCx0, .bool async] 62)).cell? ⟨w.heap.size, 5, none⟩ = some (.bool async) := by rw [← HW5.out]; exact b0.cell 5
    have c69_b10 : (w4.alloc (.cells #[.slice paramsAx0 paramsNx0 paramsCx0, .int .i64 result_kind, .string result_name, .slice result_labelsAx0 result_labelsNx0 result_labelsCx0, .slice result_kidsAx0 result_kidsNx0 result_kidsCx0, .bool async] 62)).cell? ⟨(w.heap.size + 1), 0, none⟩ = some (ZparamsV) := by rw [← HW5.out]; exact b1.cell 0
    have c70_b11 : (w4.alloc (.cells #[.slice paramsAx0 paramsNx0 paramsCx0, .int .i64 result_kind, .string result_name, .slice result_labelsAx0 result_labelsNx0 result_labelsCx0, .slice result_kidsAx0 result_kidsNx0 result_kidsCx0, .bool async] 62)).cell? ⟨(w.heap.size + 1), 1, none⟩ = some (.int .i64 Zresult_kind) := by rw [← HW5.out]; exact b1.cell 1
    have c71_b12 : (w4.alloc (.cells #[.slice paramsAx0 paramsNx0 paramsCx0, .int .i64 result_kind, .string result_name, .slice result_labelsAx0 result_labelsNx0 result_labelsCx0, .slice result_kidsAx0 result_kidsNx0 result_kidsCx0, .bool async] 62)).cell? ⟨(w.heap.size + 1), 2, none⟩ = some (.string Zresult_name) := by rw [← HW5.out]; exact b1.cell 2
    have c72_b13 : (w4.alloc (.cells #[.slice paramsAx0 paramsNx0 paramsCx0, .int .i64 result_kind, .string result_name, .slice result_labelsAx0 result_labelsNx0 result_labelsCx0, .slice result_kidsAx0 result_kidsNx0 result_kidsCx0, .bool async] 62)).cell? ⟨(w.heap.size + 1), 3, none⟩ = some (Zresult_labelsV) := by rw [← HW5.out]; exact b1.cell 3
    have c73_b14 : (w4.alloc (.cells #[.slice paramsAx0 paramsNx0 paramsCx0, .int .i64 result_kind, .string result_name, .slice result_labelsAx0 result_labelsNx0 result_labelsCx0, .slice result_kidsAx0 result_kidsNx0 result_kidsCx0, .bool async] 62)).cell? ⟨(w.heap.size + 1), 4, none⟩ = some (Zresult_kidsV) := by rw [← HW5.out]; exact b1.cell 4
    have c74_b15 : (w4.alloc (.cells #[.slice paramsAx0 paramsNx0 paramsCx0, .int .i64 result_kind, .string result_name, .slice result_labelsAx0 result_labelsNx0 result_labelsCx0, .slice result_kidsAx0 result_kidsNx0 result_kidsCx0, .bool async] 62)).cell? ⟨(w.heap.size + 1), 5, none⟩ = some (.bool Zasync) := by rw [← HW5.out]; exact b1.cell 5
    have c75_bW0 : (w4.alloc (.cells #[.slice paramsAx0 paramsNx0 paramsCx0, .int .i64 result_kind, .string result_name, .slice result_labelsAx0 result_labelsNx0 result_labelsCx0, .slice result_kidsAx0 result_kidsNx0 result_kidsCx0, .bool async] 62)).cell? ⟨rx, 0, none⟩ = some (.int .i64 r_kind) := by rw [← HW5.out]; exact bW.cell 0
    have c76_bW1 : (w4.alloc (.cells #[.slice paramsAx0 paramsNx0 paramsCx0, .int .i64 result_kind, .string result_name, .slice result_labelsAx0 result_labelsNx0 result_labelsCx0, .slice result_kidsAx0 result_kidsNx0 result_kidsCx0, .bool async] 62)).cell? ⟨rx, 1, none⟩ = some (.string r_at_) := by rw [← HW5.out]; exact bW.cell 1
    have c77_bX00 : (w4.alloc (.cells #[.slice paramsAx0 paramsNx0 paramsCx0, .int .i64 result_kind, .string result_name, .slice result_labelsAx0 result_labelsNx0 result_labelsCx0, .slice result_kidsAx0 result_kidsNx0 result_kidsCx0, .bool async] 62)).cell? ⟨w4.heap.size, 0, none⟩ = some (.slice paramsAx0 paramsNx0 paramsCx0) := by rw [← HW5.out]; exact bX0.cell 0
    have c78_bX01 : (w4.alloc (.cells #[.slice paramsAx0 paramsNx0 paramsCx0, .int .i64 result_kind, .string result_name, .slice result_labelsAx0 result_labelsNx0 result_labelsCx0, .slice result_kidsAx0 result_kidsNx0 result_kidsCx0, .bool async] 62)).cell? ⟨w4.heap.size, 1, none⟩ = some (.int .i64 result_kind) := by rw [← HW5.out]; exact bX0.cell 1
    have c79_bX02 : (w4.alloc (.cells #[.slice paramsAx0 paramsNx0 paramsCx0, .int .i64 result_kind, .string result_name, .slice result_labelsAx0 result_labelsNx0 result_labelsCx0, .slice result_kidsAx0 result_kidsNx0 result_kidsCx0, .bool async] 62)).cell? ⟨w4.heap.size, 2, none⟩ = some (.string result_name) := by rw [← HW5.out]; exact bX0.cell 2
    have c80_bX03 : (w4.alloc (.cells #[.slice paramsAx0 paramsNx0 paramsCx0, .int .i64 result_kind, .string result_name, .slice result_labelsAx0 result_labelsNx0 result_labelsCx0, .slice result_kidsAx0 result_kidsNx0 result_kidsCx0, .bool async] 62)).cell? ⟨w4.heap.size, 3, none⟩ = some (.slice result_labelsAx0 result_labelsNx0 result_labelsCx0) := by rw [← HW5.out]; exact bX0.cell 3
    have c81_bX04 : (w4.alloc (.cells #[.slice paramsAx0 paramsNx0 paramsCx0, .int .i64 result_kind, .string result_name, .slice result_labelsAx0 result_labelsNx0 result_labelsCx0, .slice result_kidsAx0 result_kidsNx0 result_kidsCx0, .bool async] 62)).cell? ⟨w4.heap.size, 4, none⟩ = some (.slice result_kidsAx0 result_kidsNx0 result_kidsCx0) := by rw [← HW5.out]; exact bX0.cell 4
    have c82_bX05 : (w4.alloc (.cells #[.slice paramsAx0 paramsNx0 paramsCx0, .int .i64 result_kind, .string result_name, .slice result_labelsAx0 result_labelsNx0 result_labelsCx0, .slice result_kidsAx0 result_kidsNx0 result_kidsCx0, .bool async] 62)).cell? ⟨w4.heap.size, 5, none⟩ = some (.bool async) := by rw [← HW5.out]; exact bX0.cell 5
    go_wp2_with fail
    rw [← HW5.out]
    clear c63_b00 c64_b01 c65_b02 c66_b03 c67_b04 c68_b05 c69_b10 c70_b11 c71_b12 c72_b13 c73_b14 c74_b15 c75_bW0 c76_bW1 c77_bX00 c78_bX01 c79_bX02 c80_bX03 c81_bX04 c82_bX05
    clear HW5
    refine (toFuncType_all _ w.heap.size [ZparamsV, .int .i64 Zresult_kind, .string Zresult_name, Zresult_labelsV, Zresult_kidsV, .bool Zasync] _ hB5.size (by rw [← Z1.out]; omega) (R1.out.below hB5)).mono ?_
    rintro e w6 ⟨ux1, rfl, Lx1, hb6⟩
    have hs6 := hb6.size
    have hB6 := hB5.trans (hb6.mono hB5.size)
    replace Gw := Gw.step hb6
    replace Lx0 := Lx0.step hb6
    replace b0 := b0.step hb6
    replace b1 := b1.step hb6
    replace bW := bW.step hb6
    replace bX0 := bX0.step hb6
    have Kx1 := Lx1
    obtain ⟨ZparamsAx1, ZparamsNx1, ZparamsCx1, Zresult_labelsAx1, Zresult_labelsNx1, Zresult_labelsCx1, Zresult_kidsAx1, Zresult_kidsNx1, Zresult_kidsCx1, rfl⟩ := FuncType.lopen Kx1
    clear Kx1
    obtain ⟨w7, hw7⟩ : ∃ W, W = (w6.alloc (.cells #[.slice ZparamsAx1 ZparamsNx1 ZparamsCx1, .int .i64 Zresult_kind, .string Zresult_name, .slice Zresult_labelsAx1 Zresult_labelsNx1 Zresult_labelsCx1, .slice Zresult_kidsAx1 Zresult_kidsNx1 Zresult_kidsCx1, .bool Zasync] 62)) := ⟨_, rfl⟩
    have hb7 : Below w6.heap.size w6 w7 := by rw [hw7]; exact (Below.refl _ _).alloc (Nat.le_refl _) _
    have bX1 : Blk w7 w6.heap.size 62 #[.slice ZparamsAx1 ZparamsNx1 ZparamsCx1, .int .i64 Zresult_kind, .string Zresult_name, .slice Zresult_labelsAx1 Zresult_labelsNx1 Zresult_labelsCx1, .slice Zresult_kidsAx1 Zresult_kidsNx1 Zresult_kidsCx1, .bool Zasync] := by rw [hw7]; exact Blk.new w6 _ _
    have HW7 := Lib.hid hw7
    clear hw7
    have lb7 := bX1.lt
    have hs7 := hb7.size
    have hB7 := hB6.trans (hb7.mono hB6.size)
    replace Gw := Gw.step hb7
    replace Lx0 := Lx0.step hb7
    replace Lx1 := Lx1.step hb7
    replace b0 := b0.step hb7
    replace b1 := b1.step hb7
    replace bW := bW.step hb7
    replace bX0 := bX0.step hb7
    have c83_b00 : (w6.alloc (.cells #[.slice ZparamsAx1 ZparamsNx1 ZparamsCx1, .int .i64 Zresult_kind, .string Zresult_name, .slice Zresult_labelsAx1 Zresult_labelsNx1 Zresult_labelsCx1, .slice Zresult_kidsAx1 Zresult_kidsNx1 Zresult_kidsCx1, .bool Zasync] 62)).cell? ⟨w.heap.size, 0, none⟩ = some (paramsV) := by rw [← HW7.out]; exact b0.cell 0
    have c84_b01 : (w6.alloc (.cells #[.slice ZparamsAx1 ZparamsNx1 ZparamsCx1, .int .i64 Zresult_kind, .string Zresult_name, .slice Zresult_labelsAx1 Zresult_labelsNx1 Zresult_labelsCx1, .slice Zresult_kidsAx1 Zresult_kidsNx1 Zresult_kidsCx1, .bool Zasync] 62)).cell? ⟨w.heap.size, 1, none⟩ = some (.int .i64 result_kind) := by rw [← HW7.out]; exact b0.cell 1
    have c85_b02 : (w6.alloc (.cells #[.slice ZparamsAx1 ZparamsNx1 ZparamsCx1, .int .i64 Zresult_kind, .string Zresult_name, .slice Zresult_labelsAx1 Zresult_labelsNx1 Zresult_labelsCx1, .slice Zresult_kidsAx1 Zresult_kidsNx1 Zresult_kidsCx1, .bool Zasync] 62)).cell? ⟨w.heap.size, 2, none⟩ = some (.string result_name) := by rw [← HW7.out]; exact b0.cell 2
    have c86_b03 : (w6.alloc (.cells #[.slice ZparamsAx1 ZparamsNx1 ZparamsCx1, .int .i64 Zresult_kind, .string Zresult_name, .slice Zresult_labelsAx1 Zresult_labelsNx1 Zresult_labelsCx1, .slice Zresult_kidsAx1 Zresult_kidsNx1 Zresult_kidsCx1, .bool Zasync] 62)).cell? ⟨w.heap.size, 3, none⟩ = some (result_labelsV) := by rw [← HW7.out]; exact b0.cell 3
    have c87_b04 : (w6.alloc (.cells #[.slice ZparamsAx1 ZparamsNx1 ZparamsCx1, .int .i64 Zresult_kind, .string Zresult_name, .slice Zresult_labelsAx1 Zresult_labelsNx1 Zresult_labelsCx1, .slice Zresult_kidsAx1 Zresult_kidsNx1 Zresult_kidsCx1, .bool Zasync] 62)).cell? ⟨w.heap.size, 4, none⟩ = some (result_kidsV) := by rw [← HW7.out]; exact b0.cell 4
    have c88_b05 : (w6.alloc (.cells #[.slice ZparamsAx1 ZparamsNx1 ZparamsCx1, .int .i64 Zresult_kind, .string Zresult_name, .slice Zresult_labelsAx1 Zresult_labelsNx1 Zresult_labelsCx1, .slice Zresult_kidsAx1 Zresult_kidsNx1 Zresult_kidsCx1, .bool Zasync] 62)).cell? ⟨w.heap.size, 5, none⟩ = some (.bool async) := by rw [← HW7.out]; exact b0.cell 5
    have c89_b10 : (w6.alloc (.cells #[.slice ZparamsAx1 ZparamsNx1 ZparamsCx1, .int .i64 Zresult_kind, .string Zresult_name, .slice Zresult_labelsAx1 Zresult_labelsNx1 Zresult_labelsCx1, .slice Zresult_kidsAx1 Zresult_kidsNx1 Zresult_kidsCx1, .bool Zasync] 62)).cell? ⟨(w.heap.size + 1), 0, none⟩ = some (ZparamsV) := by rw [← HW7.out]; exact b1.cell 0
    have c90_b11 : (w6.alloc (.cells #[.slice ZparamsAx1 ZparamsNx1 ZparamsCx1, .int .i64 Zresult_kind, .string Zresult_name, .slice Zresult_labelsAx1 Zresult_labelsNx1 Zresult_labelsCx1, .slice Zresult_kidsAx1 Zresult_kidsNx1 Zresult_kidsCx1, .bool Zasync] 62)).cell? ⟨(w.heap.size + 1), 1, none⟩ = some (.int .i64 Zresult_kind) := by rw [← HW7.out]; exact b1.cell 1
    have c91_b12 : (w6.alloc (.cells #[.slice ZparamsAx1 ZparamsNx1 ZparamsCx1, .int .i64 Zresult_kind, .string Zresult_name, .slice Zresult_labelsAx1 Zresult_labelsNx1 Zresult_labelsCx1, .slice Zresult_kidsAx1 Zresult_kidsNx1 Zresult_kidsCx1, .bool Zasync] 62)).cell? ⟨(w.heap.size + 1), 2, none⟩ = some (.string Zresult_name) := by rw [← HW7.out]; exact b1.cell 2
    have c92_b13 : (w6.alloc (.cells #[.slice ZparamsAx1 ZparamsNx1 ZparamsCx1, .int .i64 Zresult_kind, .string Zresult_name, .slice Zresult_labelsAx1 Zresult_labelsNx1 Zresult_labelsCx1, .slice Zresult_kidsAx1 Zresult_kidsNx1 Zresult_kidsCx1, .bool Zasync] 62)).cell? ⟨(w.heap.size + 1), 3, none⟩ = some (Zresult_labelsV) := by rw [← HW7.out]; exact b1.cell 3
    have c93_b14 : (w6.alloc (.cells #[.slice ZparamsAx1 ZparamsNx1 ZparamsCx1, .int .i64 Zresult_kind, .string Zresult_name, .slice Zresult_labelsAx1 Zresult_labelsNx1 Zresult_labelsCx1, .slice Zresult_kidsAx1 Zresult_kidsNx1 Zresult_kidsCx1, .bool Zasync] 62)).cell? ⟨(w.heap.size + 1), 4, none⟩ = some (Zresult_kidsV) := by rw [← HW7.out]; exact b1.cell 4
    have c94_b15 : (w6.alloc (.cells #[.slice ZparamsAx1 ZparamsNx1 ZparamsCx1, .int .i64 Zresult_kind, .string Zresult_name, .slice Zresult_labelsAx1 Zresult_labelsNx1 Zresult_labelsCx1, .slice Zresult_kidsAx1 Zresult_kidsNx1 Zresult_kidsCx1, .bool Zasync] 62)).cell? ⟨(w.heap.size + 1), 5, none⟩ = some (.bool Zasync) := by rw [← HW7.out]; exact b1.cell 5
    have c95_bW0 : (w6.alloc (.cells #[.slice ZparamsAx1 ZparamsNx1 ZparamsCx1, .int .i64 Zresult_kind, .string Zresult_name, .slice Zresult_labelsAx1 Zresult_labelsNx1 Zresult_labelsCx1, .slice Zresult_kidsAx1 Zresult_kidsNx1 Zresult_kidsCx1, .bool Zasync] 62)).cell? ⟨rx, 0, none⟩ = some (.int .i64 r_kind) := by rw [← HW7.out]; exact bW.cell 0
    have c96_bW1 : (w6.alloc (.cells #[.slice ZparamsAx1 ZparamsNx1 ZparamsCx1, .int .i64 Zresult_kind, .string Zresult_name, .slice Zresult_labelsAx1 Zresult_labelsNx1 Zresult_labelsCx1, .slice Zresult_kidsAx1 Zresult_kidsNx1 Zresult_kidsCx1, .bool Zasync] 62)).cell? ⟨rx, 1, none⟩ = some (.string r_at_) := by rw [← HW7.out]; exact bW.cell 1
    have c97_bX00 : (w6.alloc (.cells #[.slice ZparamsAx1 ZparamsNx1 ZparamsCx1, .int .i64 Zresult_kind, .string Zresult_name, .slice Zresult_labelsAx1 Zresult_labelsNx1 Zresult_labelsCx1, .slice Zresult_kidsAx1 Zresult_kidsNx1 Zresult_kidsCx1, .bool Zasync] 62)).cell? ⟨w4.heap.size, 0, none⟩ = some (.slice paramsAx0 paramsNx0 paramsCx0) := by rw [← HW7.out]; exact bX0.cell 0
    have c98_bX01 : (w6.alloc (.cells #[.slice ZparamsAx1 ZparamsNx1 ZparamsCx1, .int .i64 Zresult_kind, .string Zresult_name, .slice Zresult_labelsAx1 Zresult_labelsNx1 Zresult_labelsCx1, .slice Zresult_kidsAx1 Zresult_kidsNx1 Zresult_kidsCx1, .bool Zasync] 62)).cell? ⟨w4.heap.size, 1, none⟩ = some (.int .i64 result_kind) := by rw [← HW7.out]; exact bX0.cell 1
    have c99_bX02 : (w6.alloc (.cells #[.slice ZparamsAx1 ZparamsNx1 ZparamsCx1, .int .i64 Zresult_kind, .string Zresult_name, .slice Zresult_labelsAx1 Zresult_labelsNx1 Zresult_labelsCx1, .slice Zresult_kidsAx1 Zresult_kidsNx1 Zresult_kidsCx1, .bool Zasync] 62)).cell? ⟨w4.heap.size, 2, none⟩ = some (.string result_name) := by rw [← HW7.out]; exact bX0.cell 2
    have c100_bX03 : (w6.alloc (.cells #[.slice ZparamsAx1 ZparamsNx1 ZparamsCx1, .int .i64 Zresult_kind, .string Zresult_name, .slice Zresult_labelsAx1 Zresult_labelsNx1 Zresult_labelsCx1, .slice Zresult_kidsAx1 Zresult_kidsNx1 Zresult_kidsCx1, .bool Zasync] 62)).cell? ⟨w4.heap.size, 3, none⟩ = some (.slice result_labelsAx0 result_labelsNx0 result_labelsCx0) := by rw [← HW7.out]; exact bX0.cell 3
    have c101_bX04 : (w6.alloc (.cells #[.slice ZparamsAx1 ZparamsNx1 ZparamsCx1, .int .i64 Zresult_kind, .string Zresult_name, .slice Zresult_labelsAx1 Zresult_labelsNx1 Zresult_labelsCx1, .slice Zresult_kidsAx1 Zresult_kidsNx1 Zresult_kidsCx1, .bool Zasync] 62)).cell? ⟨w4.heap.size, 4, none⟩ = some (.slice result_kidsAx0 result_kidsNx0 result_kidsCx0) := by rw [← HW7.out]; exact bX0.cell 4
    have c102_bX05 : (w6.alloc (.cells #[.slice ZparamsAx1 ZparamsNx1 ZparamsCx1, .int .i64 Zresult_kind, .string Zresult_name, .slice Zresult_labelsAx1 Zresult_labelsNx1 Zresult_labelsCx1, .slice Zresult_kidsAx1 Zresult_kidsNx1 Zresult_kidsCx1, .bool Zasync] 62)).cell? ⟨w4.heap.size, 5, none⟩ = some (.bool async) := by rw [← HW7.out]; exact bX0.cell 5
    have c103_bX10 : (w6.alloc (.cells #[.slice ZparamsAx1 ZparamsNx1 ZparamsCx1, .int .i64 Zresult_kind, .string Zresult_name, .slice Zresult_labelsAx1 Zresult_labelsNx1 Zresult_labelsCx1, .slice Zresult_kidsAx1 Zresult_kidsNx1 Zresult_kidsCx1, .bool Zasync] 62)).cell? ⟨w6.heap.size, 0, none⟩ = some (.slice ZparamsAx1 ZparamsNx1 ZparamsCx1) := by rw [← HW7.out]; exact bX1.cell 0
    have c104_bX11 : (w6.alloc (.cells #[.slice ZparamsAx1 ZparamsNx1 ZparamsCx1, .int .i64 Zresult_kind, .string Zresult_name, .slice Zresult_labelsAx1 Zresult_labelsNx1 Zresult_labelsCx1, .slice Zresult_kidsAx1 Zresult_kidsNx1 Zresult_kidsCx1, .bool Zasync] 62)).cell? ⟨w6.heap.size, 1, none⟩ = some (.int .i64 Zresult_kind) := by rw [← HW7.out]; exact bX1.cell 1
    have c105_bX12 : (w6.alloc (.cells #[.slice ZparamsAx1 ZparamsNx1 ZparamsCx1, .int .i64 Zresult_kind, .string Zresult_name, .slice Zresult_labelsAx1 Zresult_labelsNx1 Zresult_labelsCx1, .slice Zresult_kidsAx1 Zresult_kidsNx1 Zresult_kidsCx1, .bool Zasync] 62)).cell? ⟨w6.heap.size, 2, none⟩ = some (.string Zresult_name) := by rw [← HW7.out]; exact bX1.cell 2
    have c106_bX13 : (w6.alloc (.cells #[.slice ZparamsAx1 ZparamsNx1 ZparamsCx1, .int .i64 Zresult_kind, .string Zresult_name, .slice Zresult_labelsAx1 Zresult_labelsNx1 Zresult_labelsCx1, .slice Zresult_kidsAx1 Zresult_kidsNx1 Zresult_kidsCx1, .bool Zasync] 62)).cell? ⟨w6.heap.size, 3, none⟩ = some (.slice Zresult_labelsAx1 Zresult_labelsNx1 Zresult_labelsCx1) := by rw [← HW7.out]; exact bX1.cell 3
    have c107_bX14 : (w6.alloc (.cells #[.slice ZparamsAx1 ZparamsNx1 ZparamsCx1, .int .i64 Zresult_kind, .string Zresult_name, .slice Zresult_labelsAx1 Zresult_labelsNx1 Zresult_labelsCx1, .slice Zresult_kidsAx1 Zresult_kidsNx1 Zresult_kidsCx1, .bool Zasync] 62)).cell? ⟨w6.heap.size, 4, none⟩ = some (.slice Zresult_kidsAx1 Zresult_kidsNx1 Zresult_kidsCx1) := by rw [← HW7.out]; exact bX1.cell 4
    have c108_bX15 : (w6.alloc (.cells #[.slice ZparamsAx1 ZparamsNx1 ZparamsCx1, .int .i64 Zresult_kind, .string Zresult_name, .slice Zresult_labelsAx1 Zresult_labelsNx1 Zresult_labelsCx1, .slice Zresult_kidsAx1 Zresult_kidsNx1 Zresult_kidsCx1, .bool Zasync] 62)).cell? ⟨w6.heap.size, 5, none⟩ = some (.bool Zasync) := by rw [← HW7.out]; exact bX1.cell 5
    go_wp2_with fail
    rw [← HW7.out]
    clear c83_b00 c84_b01 c85_b02 c86_b03 c87_b04 c88_b05 c89_b10 c90_b11 c91_b12 c92_b13 c93_b14 c94_b15 c95_bW0 c96_bW1 c97_bX00 c98_bX01 c99_bX02 c100_bX03 c101_bX04 c102_bX05 c103_bX10 c104_bX11 c105_bX12 c106_bX13 c107_bX14 c108_bX15
    clear HW7
    refine (IM'.out w7.heap.size [.slice paramsAx0 paramsNx0 paramsCx0, .int .i64 result_kind, .string result_name, .slice result_labelsAx0 result_labelsNx0 result_labelsCx0, .slice result_kidsAx0 result_kidsNx0 result_kidsCx0, .bool async] [.slice ZparamsAx1 ZparamsNx1 ZparamsCx1, .int .i64 Zresult_kind, .string Zresult_name, .slice Zresult_labelsAx1 Zresult_labelsNx1 Zresult_labelsCx1, .slice Zresult_kidsAx1 Zresult_kidsNx1 Zresult_kidsCx1, .bool Zasync] _ (Nat.le_refl _) (hT.below hB7) Lx0.is Lx1.is).mono ?_
    rintro e w8 ⟨vg, rfl, Gg, hb8⟩
    have hs8 := hb8.size
    have hB8 := hB7.trans (hb8.mono hB7.size)
    replace Gw := Gw.step hb8
    replace Lx0 := Lx0.step hb8
    replace Lx1 := Lx1.step hb8
    replace b0 := b0.step hb8
    replace b1 := b1.step hb8
    replace bW := bW.step hb8
    replace bX0 := bX0.step hb8
    replace bX1 := bX1.step hb8
    have Kg := Gg
    obtain rfl := Reason.lopen Kg
    obtain ⟨w9, hw9⟩ : ∃ W, W = (w8.alloc (.cells #[.int .i64 r_kind, .string r_at_] 34)) := ⟨_, rfl⟩
    have hb9 : Below w8.heap.size w8 w9 := by rw [hw9]; exact (Below.refl _ _).alloc (Nat.le_refl _) _
    have bG : Blk w9 w8.heap.size 34 #[.int .i64 r_kind, .string r_at_] := by rw [hw9]; exact Blk.new w8 _ _
    have HW9 := Lib.hid hw9
    clear hw9
    have lb9 := bG.lt
    have hs9 := hb9.size
    have hB9 := hB8.trans (hb9.mono hB8.size)
    replace Gw := Gw.step hb9
    replace Lx0 := Lx0.step hb9
    replace Lx1 := Lx1.step hb9
    replace Gg := Gg.step hb9
    replace b0 := b0.step hb9
    replace b1 := b1.step hb9
    replace bW := bW.step hb9
    replace bX0 := bX0.step hb9
    replace bX1 := bX1.step hb9
    have c109_b00 : (w8.alloc (.cells #[.int .i64 r_kind, .string r_at_] 34)).cell? ⟨w.heap.size, 0, none⟩ = some (paramsV) := by rw [← HW9.out]; exact b0.cell 0
    have c110_b01 : (w8.alloc (.cells #[.int .i64 r_kind, .string r_at_] 34)).cell? ⟨w.heap.size, 1, none⟩ = some (.int .i64 result_kind) := by rw [← HW9.out]; exact b0.cell 1
    have c111_b02 : (w8.alloc (.cells #[.int .i64 r_kind, .string r_at_] 34)).cell? ⟨w.heap.size, 2, none⟩ = some (.string result_name) := by rw [← HW9.out]; exact b0.cell 2
    have c112_b03 : (w8.alloc (.cells #[.int .i64 r_kind, .string r_at_] 34)).cell? ⟨w.heap.size, 3, none⟩ = some (result_labelsV) := by rw [← HW9.out]; exact b0.cell 3
    have c113_b04 : (w8.alloc (.cells #[.int .i64 r_kind, .string r_at_] 34)).cell? ⟨w.heap.size, 4, none⟩ = some (result_kidsV) := by rw [← HW9.out]; exact b0.cell 4
    have c114_b05 : (w8.alloc (.cells #[.int .i64 r_kind, .string r_at_] 34)).cell? ⟨w.heap.size, 5, none⟩ = some (.bool async) := by rw [← HW9.out]; exact b0.cell 5
    have c115_b10 : (w8.alloc (.cells #[.int .i64 r_kind, .string r_at_] 34)).cell? ⟨(w.heap.size + 1), 0, none⟩ = some (ZparamsV) := by rw [← HW9.out]; exact b1.cell 0
    have c116_b11 : (w8.alloc (.cells #[.int .i64 r_kind, .string r_at_] 34)).cell? ⟨(w.heap.size + 1), 1, none⟩ = some (.int .i64 Zresult_kind) := by rw [← HW9.out]; exact b1.cell 1
    have c117_b12 : (w8.alloc (.cells #[.int .i64 r_kind, .string r_at_] 34)).cell? ⟨(w.heap.size + 1), 2, none⟩ = some (.string Zresult_name) := by rw [← HW9.out]; exact b1.cell 2
    have c118_b13 : (w8.alloc (.cells #[.int .i64 r_kind, .string r_at_] 34)).cell? ⟨(w.heap.size + 1), 3, none⟩ = some (Zresult_labelsV) := by rw [← HW9.out]; exact b1.cell 3
    have c119_b14 : (w8.alloc (.cells #[.int .i64 r_kind, .string r_at_] 34)).cell? ⟨(w.heap.size + 1), 4, none⟩ = some (Zresult_kidsV) := by rw [← HW9.out]; exact b1.cell 4
    have c120_b15 : (w8.alloc (.cells #[.int .i64 r_kind, .string r_at_] 34)).cell? ⟨(w.heap.size + 1), 5, none⟩ = some (.bool Zasync) := by rw [← HW9.out]; exact b1.cell 5
    have c121_bW0 : (w8.alloc (.cells #[.int .i64 r_kind, .string r_at_] 34)).cell? ⟨rx, 0, none⟩ = some (.int .i64 r_kind) := by rw [← HW9.out]; exact bW.cell 0
    have c122_bW1 : (w8.alloc (.cells #[.int .i64 r_kind, .string r_at_] 34)).cell? ⟨rx, 1, none⟩ = some (.string r_at_) := by rw [← HW9.out]; exact bW.cell 1
    have c123_bX00 : (w8.alloc (.cells #[.int .i64 r_kind, .string r_at_] 34)).cell? ⟨w4.heap.size, 0, none⟩ = some (.slice paramsAx0 paramsNx0 paramsCx0) := by rw [← HW9.out]; exact bX0.cell 0
    have c124_bX01 : (w8.alloc (.cells #[.int .i64 r_kind, .string r_at_] 34)).cell? ⟨w4.heap.size, 1, none⟩ = some (.int .i64 result_kind) := by rw [← HW9.out]; exact bX0.cell 1
    have c125_bX02 : (w8.alloc (.cells #[.int .i64 r_kind, .string r_at_] 34)).cell? ⟨w4.heap.size, 2, none⟩ = some (.string result_name) := by rw [← HW9.out]; exact bX0.cell 2
    have c126_bX03 : (w8.alloc (.cells #[.int .i64 r_kind, .string r_at_] 34)).cell? ⟨w4.heap.size, 3, none⟩ = some (.slice result_labelsAx0 result_labelsNx0 result_labelsCx0) := by rw [← HW9.out]; exact bX0.cell 3
    have c127_bX04 : (w8.alloc (.cells #[.int .i64 r_kind, .string r_at_] 34)).cell? ⟨w4.heap.size, 4, none⟩ = some (.slice result_kidsAx0 result_kidsNx0 result_kidsCx0) := by rw [← HW9.out]; exact bX0.cell 4
    have c128_bX05 : (w8.alloc (.cells #[.int .i64 r_kind, .string r_at_] 34)).cell? ⟨w4.heap.size, 5, none⟩ = some (.bool async) := by rw [← HW9.out]; exact bX0.cell 5
    have c129_bX10 : (w8.alloc (.cells #[.int .i64 r_kind, .string r_at_] 34)).cell? ⟨w6.heap.size, 0, none⟩ = some (.slice ZparamsAx1 ZparamsNx1 ZparamsCx1) := by rw [← HW9.out]; exact bX1.cell 0
    have c130_bX11 : (w8.alloc (.cells #[.int .i64 r_kind, .string r_at_] 34)).cell? ⟨w6.heap.size, 1, none⟩ = some (.int .i64 Zresult_kind) := by rw [← HW9.out]; exact bX1.cell 1
    have c131_bX12 : (w8.alloc (.cells #[.int .i64 r_kind, .string r_at_] 34)).cell? ⟨w6.heap.size, 2, none⟩ = some (.string Zresult_name) := by rw [← HW9.out]; exact bX1.cell 2
    have c132_bX13 : (w8.alloc (.cells #[.int .i64 r_kind, .string r_at_] 34)).cell? ⟨w6.heap.size, 3, none⟩ = some (.slice Zresult_labelsAx1 Zresult_labelsNx1 Zresult_labelsCx1) := by rw [← HW9.out]; exact bX1.cell 3
    have c133_bX14 : (w8.alloc (.cells #[.int .i64 r_kind, .string r_at_] 34)).cell? ⟨w6.heap.size, 4, none⟩ = some (.slice Zresult_kidsAx1 Zresult_kidsNx1 Zresult_kidsCx1) := by rw [← HW9.out]; exact bX1.cell 4
    have c134_bX15 : (w8.alloc (.cells #[.int .i64 r_kind, .string r_at_] 34)).cell? ⟨w6.heap.size, 5, none⟩ = some (.bool Zasync) := by rw [← HW9.out]; exact bX1.cell 5
    have c135_bG0 : (w8.alloc (.cells #[.int .i64 r_kind, .string r_at_] 34)).cell? ⟨w8.heap.size, 0, none⟩ = some (.int .i64 r_kind) := by rw [← HW9.out]; exact bG.cell 0
    have c136_bG1 : (w8.alloc (.cells #[.int .i64 r_kind, .string r_at_] 34)).cell? ⟨w8.heap.size, 1, none⟩ = some (.string r_at_) := by rw [← HW9.out]; exact bG.cell 1
    go_wp2_with fail
    rw [← HW9.out]
    clear c109_b00 c110_b01 c111_b02 c112_b03 c113_b04 c114_b05 c115_b10 c116_b11 c117_b12 c118_b13 c119_b14 c120_b15 c121_bW0 c122_bW1 c123_bX00 c124_bX01 c125_bX02 c126_bX03 c127_bX04 c128_bX05 c129_bX10 c130_bX11 c131_bX12 c132_bX13 c133_bX14 c134_bX15 c135_bG0 c136_bG1
    clear HW9
    refine (eqReason_all (⟨r_kind, r_at_⟩ : Reason) w9.heap.size _ _ _ (Nat.le_refl _) Gg.is Gw.is).mono ?_
    rintro e w10 ⟨rfl, hb10⟩
    have hs10 := hb10.size
    have hB10 := hB9.trans (hb10.mono hB9.size)
    replace Gw := Gw.step hb10
    replace Lx0 := Lx0.step hb10
    replace Lx1 := Lx1.step hb10
    replace Gg := Gg.step hb10
    replace b0 := b0.step hb10
    replace b1 := b1.step hb10
    replace bW := bW.step hb10
    replace bX0 := bX0.step hb10
    replace bX1 := bX1.step hb10
    replace bG := bG.step hb10
    have c137_b00 : w10.cell? ⟨w.heap.size, 0, none⟩ = some (paramsV) := b0.cell 0
    have c138_b01 : w10.cell? ⟨w.heap.size, 1, none⟩ = some (.int .i64 result_kind) := b0.cell 1
    have c139_b02 : w10.cell? ⟨w.heap.size, 2, none⟩ = some (.string result_name) := b0.cell 2
    have c140_b03 : w10.cell? ⟨w.heap.size, 3, none⟩ = some (result_labelsV) := b0.cell 3
    have c141_b04 : w10.cell? ⟨w.heap.size, 4, none⟩ = some (result_kidsV) := b0.cell 4
    have c142_b05 : w10.cell? ⟨w.heap.size, 5, none⟩ = some (.bool async) := b0.cell 5
    have c143_b10 : w10.cell? ⟨(w.heap.size + 1), 0, none⟩ = some (ZparamsV) := b1.cell 0
    have c144_b11 : w10.cell? ⟨(w.heap.size + 1), 1, none⟩ = some (.int .i64 Zresult_kind) := b1.cell 1
    have c145_b12 : w10.cell? ⟨(w.heap.size + 1), 2, none⟩ = some (.string Zresult_name) := b1.cell 2
    have c146_b13 : w10.cell? ⟨(w.heap.size + 1), 3, none⟩ = some (Zresult_labelsV) := b1.cell 3
    have c147_b14 : w10.cell? ⟨(w.heap.size + 1), 4, none⟩ = some (Zresult_kidsV) := b1.cell 4
    have c148_b15 : w10.cell? ⟨(w.heap.size + 1), 5, none⟩ = some (.bool Zasync) := b1.cell 5
    have c149_bW0 : w10.cell? ⟨rx, 0, none⟩ = some (.int .i64 r_kind) := bW.cell 0
    have c150_bW1 : w10.cell? ⟨rx, 1, none⟩ = some (.string r_at_) := bW.cell 1
    have c151_bX00 : w10.cell? ⟨w4.heap.size, 0, none⟩ = some (.slice paramsAx0 paramsNx0 paramsCx0) := bX0.cell 0
    have c152_bX01 : w10.cell? ⟨w4.heap.size, 1, none⟩ = some (.int .i64 result_kind) := bX0.cell 1
    have c153_bX02 : w10.cell? ⟨w4.heap.size, 2, none⟩ = some (.string result_name) := bX0.cell 2
    have c154_bX03 : w10.cell? ⟨w4.heap.size, 3, none⟩ = some (.slice result_labelsAx0 result_labelsNx0 result_labelsCx0) := bX0.cell 3
    have c155_bX04 : w10.cell? ⟨w4.heap.size, 4, none⟩ = some (.slice result_kidsAx0 result_kidsNx0 result_kidsCx0) := bX0.cell 4
    have c156_bX05 : w10.cell? ⟨w4.heap.size, 5, none⟩ = some (.bool async) := bX0.cell 5
    have c157_bX10 : w10.cell? ⟨w6.heap.size, 0, none⟩ = some (.slice ZparamsAx1 ZparamsNx1 ZparamsCx1) := bX1.cell 0
    have c158_bX11 : w10.cell? ⟨w6.heap.size, 1, none⟩ = some (.int .i64 Zresult_kind) := bX1.cell 1
    have c159_bX12 : w10.cell? ⟨w6.heap.size, 2, none⟩ = some (.string Zresult_name) := bX1.cell 2
    have c160_bX13 : w10.cell? ⟨w6.heap.size, 3, none⟩ = some (.slice Zresult_labelsAx1 Zresult_labelsNx1 Zresult_labelsCx1) := bX1.cell 3
    have c161_bX14 : w10.cell? ⟨w6.heap.size, 4, none⟩ = some (.slice Zresult_kidsAx1 Zresult_kidsNx1 Zresult_kidsCx1) := bX1.cell 4
    have c162_bX15 : w10.cell? ⟨w6.heap.size, 5, none⟩ = some (.bool Zasync) := bX1.cell 5
    have c163_bG0 : w10.cell? ⟨w8.heap.size, 0, none⟩ = some (.int .i64 r_kind) := bG.cell 0
    have c164_bG1 : w10.cell? ⟨w8.heap.size, 1, none⟩ = some (.string r_at_) := bG.cell 1
    go_wp2_with fail
    clear c137_b00 c138_b01 c139_b02 c140_b03 c141_b04 c142_b05 c143_b10 c144_b11 c145_b12 c146_b13 c147_b14 c148_b15 c149_bW0 c150_bW1 c151_bX00 c152_bX01 c153_bX02 c154_bX03 c155_bX04 c156_bX05 c157_bX10 c158_bX11 c159_bX12 c160_bX13 c161_bX14 c162_bX15 c163_bG0 c164_bG1
    have c165_b00 : w10.cell? ⟨w.heap.size, 0, none⟩ = some (paramsV) := b0.cell 0
    have c166_b01 : w10.cell? ⟨w.heap.size, 1, none⟩ = some (.int .i64 result_kind) := b0.cell 1
    have c167_b02 : w10.cell? ⟨w.heap.size, 2, none⟩ = some (.string result_name) := b0.cell 2
    have c168_b03 : w10.cell? ⟨w.heap.size, 3, none⟩ = some (result_labelsV) := b0.cell 3
    have c169_b04 : w10.cell? ⟨w.heap.size, 4, none⟩ = some (result_kidsV) := b0.cell 4
    have c170_b05 : w10.cell? ⟨w.heap.size, 5, none⟩ = some (.bool async) := b0.cell 5
    have c171_bX00 : w10.cell? ⟨w4.heap.size, 0, none⟩ = some (.slice paramsAx0 paramsNx0 paramsCx0) := bX0.cell 0
    have c172_bX01 : w10.cell? ⟨w4.heap.size, 1, none⟩ = some (.int .i64 result_kind) := bX0.cell 1
    have c173_bX02 : w10.cell? ⟨w4.heap.size, 2, none⟩ = some (.string result_name) := bX0.cell 2
    have c174_bX03 : w10.cell? ⟨w4.heap.size, 3, none⟩ = some (.slice result_labelsAx0 result_labelsNx0 result_labelsCx0) := bX0.cell 3
    have c175_bX04 : w10.cell? ⟨w4.heap.size, 4, none⟩ = some (.slice result_kidsAx0 result_kidsNx0 result_kidsCx0) := bX0.cell 4
    have c176_bX05 : w10.cell? ⟨w4.heap.size, 5, none⟩ = some (.bool async) := bX0.cell 5
    have hA := b0.lt
    have hX := bX0.lt
    have TC := Lib.hid (toFuncType_all _ w.heap.size [paramsV, .int .i64 result_kind, .string result_name, result_labelsV, result_kidsV, .bool async] w10.drew hB10.size (by rw [← Z0.out]; omega) (by exact R0.out.below hB10.drew))
    go_region_held3 (fun w' => w'.cell? ⟨w.heap.size, 0, none⟩ = some (paramsV) ∧ w'.cell? ⟨w.heap.size, 1, none⟩ = some (.int .i64 result_kind) ∧ w'.cell? ⟨w.heap.size, 2, none⟩ = some (.string result_name) ∧ w'.cell? ⟨w.heap.size, 3, none⟩ = some (result_labelsV) ∧ w'.cell? ⟨w.heap.size, 4, none⟩ = some (result_kidsV) ∧ w'.cell? ⟨w.heap.size, 5, none⟩ = some (.bool async) ∧ w'.cell? ⟨w4.heap.size, 0, none⟩ = some (.slice paramsAx0 paramsNx0 paramsCx0) ∧ w'.cell? ⟨w4.heap.size, 1, none⟩ = some (.int .i64 result_kind) ∧ w'.cell? ⟨w4.heap.size, 2, none⟩ = some (.string result_name) ∧ w'.cell? ⟨w4.heap.size, 3, none⟩ = some (.slice result_labelsAx0 result_labelsNx0 result_labelsCx0) ∧ w'.cell? ⟨w4.heap.size, 4, none⟩ = some (.slice result_kidsAx0 result_kidsNx0 result_kidsCx0) ∧ w'.cell? ⟨w4.heap.size, 5, none⟩ = some (.bool async))
      (first | go_keep | exact ⟨(hby.cell (p := ⟨w.heap.size, 0, none⟩) hA).trans c165_b00, (hby.cell (p := ⟨w.heap.size, 1, none⟩) hA).trans c166_b01, (hby.cell (p := ⟨w.heap.size, 2, none⟩) hA).trans c167_b02, (hby.cell (p := ⟨w.heap.size, 3, none⟩) hA).trans c168_b03, (hby.cell (p := ⟨w.heap.size, 4, none⟩) hA).trans c169_b04, (hby.cell (p := ⟨w.heap.size, 5, none⟩) hA).trans c170_b05, (hby.cell (p := ⟨w4.heap.size, 0, none⟩) hX).trans c171_bX00, (hby.cell (p := ⟨w4.heap.size, 1, none⟩) hX).trans c172_bX01, (hby.cell (p := ⟨w4.heap.size, 2, none⟩) hX).trans c173_bX02, (hby.cell (p := ⟨w4.heap.size, 3, none⟩) hX).trans c174_bX03, (hby.cell (p := ⟨w4.heap.size, 4, none⟩) hX).trans c175_bX04, (hby.cell (p := ⟨w4.heap.size, 5, none⟩) hX).trans c176_bX05⟩ | exact ⟨(hbyz.cell (p := ⟨w.heap.size, 0, none⟩) hA).trans c165_b00, (hbyz.cell (p := ⟨w.heap.size, 1, none⟩) hA).trans c166_b01, (hbyz.cell (p := ⟨w.heap.size, 2, none⟩) hA).trans c167_b02, (hbyz.cell (p := ⟨w.heap.size, 3, none⟩) hA).trans c168_b03, (hbyz.cell (p := ⟨w.heap.size, 4, none⟩) hA).trans c169_b04, (hbyz.cell (p := ⟨w.heap.size, 5, none⟩) hA).trans c170_b05, (hbyz.cell (p := ⟨w4.heap.size, 0, none⟩) hX).trans c171_bX00, (hbyz.cell (p := ⟨w4.heap.size, 1, none⟩) hX).trans c172_bX01, (hbyz.cell (p := ⟨w4.heap.size, 2, none⟩) hX).trans c173_bX02, (hbyz.cell (p := ⟨w4.heap.size, 3, none⟩) hX).trans c174_bX03, (hbyz.cell (p := ⟨w4.heap.size, 4, none⟩) hX).trans c175_bX04, (hbyz.cell (p := ⟨w4.heap.size, 5, none⟩) hX).trans c176_bX05⟩)
      (first | (go_at_call 22; refine TC.out.mono ?_; rintro e wy ⟨uy, rfl, Ly, hby⟩; have Ky := Ly; obtain ⟨paramsAy, paramsNy, paramsCy, result_labelsAy, result_labelsNy, result_labelsCy, result_kidsAy, result_kidsNy, result_kidsCy, rfl⟩ := FuncType.lopen Ky; have Lxy := Lx0.step ((Below.refl w10.heap.size w10).drew.trans hby)) | (go_at_call 24; refine (eqFuncType_all _ wy.heap.size [.slice paramsAx0 paramsNx0 paramsCx0, .int .i64 result_kind, .string result_name, .slice result_labelsAx0 result_labelsNx0 result_labelsCx0, .slice result_kidsAx0 result_kidsNx0 result_kidsCx0, .bool async] [.slice paramsAy paramsNy paramsCy, .int .i64 result_kind, .string result_name, .slice result_labelsAy result_labelsNy result_labelsCy, .slice result_kidsAy result_kidsNy result_kidsCy, .bool async] _ (Nat.le_refl _) (by exact Lxy.is) (by exact Ly.is)).mono ?_; rintro e w11 ⟨rfl, hbz⟩; have hbyz : Below w10.heap.size w10 w11 := ((Below.refl _ _).drew.trans hby).trans (hbz.mono hby.size)))
    have hb11 := hbyz
    have hs11 := hb11.size
    have hB11 := hB10.trans (hb11.mono hB10.size)
    replace Gw := Gw.step hb11
    replace Lx0 := Lx0.step hb11
    replace Lx1 := Lx1.step hb11
    replace Gg := Gg.step hb11
    replace b0 := b0.step hb11
    replace b1 := b1.step hb11
    replace bW := bW.step hb11
    replace bX0 := bX0.step hb11
    replace bX1 := bX1.step hb11
    replace bG := bG.step hb11
    clear hbyz hbz hby Lxy Ly TC hA hX
    clear c165_b00 c166_b01 c167_b02 c168_b03 c169_b04 c170_b05 c171_bX00 c172_bX01 c173_bX02 c174_bX03 c175_bX04 c176_bX05
    have c177_b00 : w11.cell? ⟨w.heap.size, 0, none⟩ = some (paramsV) := b0.cell 0
    have c178_b01 : w11.cell? ⟨w.heap.size, 1, none⟩ = some (.int .i64 result_kind) := b0.cell 1
    have c179_b02 : w11.cell? ⟨w.heap.size, 2, none⟩ = some (.string result_name) := b0.cell 2
    have c180_b03 : w11.cell? ⟨w.heap.size, 3, none⟩ = some (result_labelsV) := b0.cell 3
    have c181_b04 : w11.cell? ⟨w.heap.size, 4, none⟩ = some (result_kidsV) := b0.cell 4
    have c182_b05 : w11.cell? ⟨w.heap.size, 5, none⟩ = some (.bool async) := b0.cell 5
    have c183_b10 : w11.cell? ⟨(w.heap.size + 1), 0, none⟩ = some (ZparamsV) := b1.cell 0
    have c184_b11 : w11.cell? ⟨(w.heap.size + 1), 1, none⟩ = some (.int .i64 Zresult_kind) := b1.cell 1
    have c185_b12 : w11.cell? ⟨(w.heap.size + 1), 2, none⟩ = some (.string Zresult_name) := b1.cell 2
    have c186_b13 : w11.cell? ⟨(w.heap.size + 1), 3, none⟩ = some (Zresult_labelsV) := b1.cell 3
    have c187_b14 : w11.cell? ⟨(w.heap.size + 1), 4, none⟩ = some (Zresult_kidsV) := b1.cell 4
    have c188_b15 : w11.cell? ⟨(w.heap.size + 1), 5, none⟩ = some (.bool Zasync) := b1.cell 5
    have c189_bW0 : w11.cell? ⟨rx, 0, none⟩ = some (.int .i64 r_kind) := bW.cell 0
    have c190_bW1 : w11.cell? ⟨rx, 1, none⟩ = some (.string r_at_) := bW.cell 1
    have c191_bX00 : w11.cell? ⟨w4.heap.size, 0, none⟩ = some (.slice paramsAx0 paramsNx0 paramsCx0) := bX0.cell 0
    have c192_bX01 : w11.cell? ⟨w4.heap.size, 1, none⟩ = some (.int .i64 result_kind) := bX0.cell 1
    have c193_bX02 : w11.cell? ⟨w4.heap.size, 2, none⟩ = some (.string result_name) := bX0.cell 2
    have c194_bX03 : w11.cell? ⟨w4.heap.size, 3, none⟩ = some (.slice result_labelsAx0 result_labelsNx0 result_labelsCx0) := bX0.cell 3
    have c195_bX04 : w11.cell? ⟨w4.heap.size, 4, none⟩ = some (.slice result_kidsAx0 result_kidsNx0 result_kidsCx0) := bX0.cell 4
    have c196_bX05 : w11.cell? ⟨w4.heap.size, 5, none⟩ = some (.bool async) := bX0.cell 5
    have c197_bX10 : w11.cell? ⟨w6.heap.size, 0, none⟩ = some (.slice ZparamsAx1 ZparamsNx1 ZparamsCx1) := bX1.cell 0
    have c198_bX11 : w11.cell? ⟨w6.heap.size, 1, none⟩ = some (.int .i64 Zresult_kind) := bX1.cell 1
    have c199_bX12 : w11.cell? ⟨w6.heap.size, 2, none⟩ = some (.string Zresult_name) := bX1.cell 2
    have c200_bX13 : w11.cell? ⟨w6.heap.size, 3, none⟩ = some (.slice Zresult_labelsAx1 Zresult_labelsNx1 Zresult_labelsCx1) := bX1.cell 3
    have c201_bX14 : w11.cell? ⟨w6.heap.size, 4, none⟩ = some (.slice Zresult_kidsAx1 Zresult_kidsNx1 Zresult_kidsCx1) := bX1.cell 4
    have c202_bX15 : w11.cell? ⟨w6.heap.size, 5, none⟩ = some (.bool Zasync) := bX1.cell 5
    have c203_bG0 : w11.cell? ⟨w8.heap.size, 0, none⟩ = some (.int .i64 r_kind) := bG.cell 0
    have c204_bG1 : w11.cell? ⟨w8.heap.size, 1, none⟩ = some (.string r_at_) := bG.cell 1
    go_wp2_with fail
    clear c177_b00 c178_b01 c179_b02 c180_b03 c181_b04 c182_b05 c183_b10 c184_b11 c185_b12 c186_b13 c187_b14 c188_b15 c189_bW0 c190_bW1 c191_bX00 c192_bX01 c193_bX02 c194_bX03 c195_bX04 c196_bX05 c197_bX10 c198_bX11 c199_bX12 c200_bX13 c201_bX14 c202_bX15 c203_bG0 c204_bG1
    have c205_b10 : w11.cell? ⟨(w.heap.size + 1), 0, none⟩ = some (ZparamsV) := b1.cell 0
    have c206_b11 : w11.cell? ⟨(w.heap.size + 1), 1, none⟩ = some (.int .i64 Zresult_kind) := b1.cell 1
    have c207_b12 : w11.cell? ⟨(w.heap.size + 1), 2, none⟩ = some (.string Zresult_name) := b1.cell 2
    have c208_b13 : w11.cell? ⟨(w.heap.size + 1), 3, none⟩ = some (Zresult_labelsV) := b1.cell 3
    have c209_b14 : w11.cell? ⟨(w.heap.size + 1), 4, none⟩ = some (Zresult_kidsV) := b1.cell 4
    have c210_b15 : w11.cell? ⟨(w.heap.size + 1), 5, none⟩ = some (.bool Zasync) := b1.cell 5
    have c211_bX10 : w11.cell? ⟨w6.heap.size, 0, none⟩ = some (.slice ZparamsAx1 ZparamsNx1 ZparamsCx1) := bX1.cell 0
    have c212_bX11 : w11.cell? ⟨w6.heap.size, 1, none⟩ = some (.int .i64 Zresult_kind) := bX1.cell 1
    have c213_bX12 : w11.cell? ⟨w6.heap.size, 2, none⟩ = some (.string Zresult_name) := bX1.cell 2
    have c214_bX13 : w11.cell? ⟨w6.heap.size, 3, none⟩ = some (.slice Zresult_labelsAx1 Zresult_labelsNx1 Zresult_labelsCx1) := bX1.cell 3
    have c215_bX14 : w11.cell? ⟨w6.heap.size, 4, none⟩ = some (.slice Zresult_kidsAx1 Zresult_kidsNx1 Zresult_kidsCx1) := bX1.cell 4
    have c216_bX15 : w11.cell? ⟨w6.heap.size, 5, none⟩ = some (.bool Zasync) := bX1.cell 5
    have hA := b1.lt
    have hX := bX1.lt
    have TC := Lib.hid (toFuncType_all _ w.heap.size [ZparamsV, .int .i64 Zresult_kind, .string Zresult_name, Zresult_labelsV, Zresult_kidsV, .bool Zasync] w11.drew hB11.size (by rw [← Z1.out]; omega) (by exact R1.out.below hB11.drew))
    go_region_held3 (fun w' => w'.cell? ⟨(w.heap.size + 1), 0, none⟩ = some (ZparamsV) ∧ w'.cell? ⟨(w.heap.size + 1), 1, none⟩ = some (.int .i64 Zresult_kind) ∧ w'.cell? ⟨(w.heap.size + 1), 2, none⟩ = some (.string Zresult_name) ∧ w'.cell? ⟨(w.heap.size + 1), 3, none⟩ = some (Zresult_labelsV) ∧ w'.cell? ⟨(w.heap.size + 1), 4, none⟩ = some (Zresult_kidsV) ∧ w'.cell? ⟨(w.heap.size + 1), 5, none⟩ = some (.bool Zasync) ∧ w'.cell? ⟨w6.heap.size, 0, none⟩ = some (.slice ZparamsAx1 ZparamsNx1 ZparamsCx1) ∧ w'.cell? ⟨w6.heap.size, 1, none⟩ = some (.int .i64 Zresult_kind) ∧ w'.cell? ⟨w6.heap.size, 2, none⟩ = some (.string Zresult_name) ∧ w'.cell? ⟨w6.heap.size, 3, none⟩ = some (.slice Zresult_labelsAx1 Zresult_labelsNx1 Zresult_labelsCx1) ∧ w'.cell? ⟨w6.heap.size, 4, none⟩ = some (.slice Zresult_kidsAx1 Zresult_kidsNx1 Zresult_kidsCx1) ∧ w'.cell? ⟨w6.heap.size, 5, none⟩ = some (.bool Zasync))
      (first | go_keep | exact ⟨(hby.cell (p := ⟨(w.heap.size + 1), 0, none⟩) hA).trans c205_b10, (hby.cell (p := ⟨(w.heap.size + 1), 1, none⟩) hA).trans c206_b11, (hby.cell (p := ⟨(w.heap.size + 1), 2, none⟩) hA).trans c207_b12, (hby.cell (p := ⟨(w.heap.size + 1), 3, none⟩) hA).trans c208_b13, (hby.cell (p := ⟨(w.heap.size + 1), 4, none⟩) hA).trans c209_b14, (hby.cell (p := ⟨(w.heap.size + 1), 5, none⟩) hA).trans c210_b15, (hby.cell (p := ⟨w6.heap.size, 0, none⟩) hX).trans c211_bX10, (hby.cell (p := ⟨w6.heap.size, 1, none⟩) hX).trans c212_bX11, (hby.cell (p := ⟨w6.heap.size, 2, none⟩) hX).trans c213_bX12, (hby.cell (p := ⟨w6.heap.size, 3, none⟩) hX).trans c214_bX13, (hby.cell (p := ⟨w6.heap.size, 4, none⟩) hX).trans c215_bX14, (hby.cell (p := ⟨w6.heap.size, 5, none⟩) hX).trans c216_bX15⟩ | exact ⟨(hbyz.cell (p := ⟨(w.heap.size + 1), 0, none⟩) hA).trans c205_b10, (hbyz.cell (p := ⟨(w.heap.size + 1), 1, none⟩) hA).trans c206_b11, (hbyz.cell (p := ⟨(w.heap.size + 1), 2, none⟩) hA).trans c207_b12, (hbyz.cell (p := ⟨(w.heap.size + 1), 3, none⟩) hA).trans c208_b13, (hbyz.cell (p := ⟨(w.heap.size + 1), 4, none⟩) hA).trans c209_b14, (hbyz.cell (p := ⟨(w.heap.size + 1), 5, none⟩) hA).trans c210_b15, (hbyz.cell (p := ⟨w6.heap.size, 0, none⟩) hX).trans c211_bX10, (hbyz.cell (p := ⟨w6.heap.size, 1, none⟩) hX).trans c212_bX11, (hbyz.cell (p := ⟨w6.heap.size, 2, none⟩) hX).trans c213_bX12, (hbyz.cell (p := ⟨w6.heap.size, 3, none⟩) hX).trans c214_bX13, (hbyz.cell (p := ⟨w6.heap.size, 4, none⟩) hX).trans c215_bX14, (hbyz.cell (p := ⟨w6.heap.size, 5, none⟩) hX).trans c216_bX15⟩)
      (first | (go_at_call 22; refine TC.out.mono ?_; rintro e wy ⟨uy, rfl, Ly, hby⟩; have Ky := Ly; obtain ⟨ZparamsAy, ZparamsNy, ZparamsCy, Zresult_labelsAy, Zresult_labelsNy, Zresult_labelsCy, Zresult_kidsAy, Zresult_kidsNy, Zresult_kidsCy, rfl⟩ := FuncType.lopen Ky; have Lxy := Lx1.step ((Below.refl w11.heap.size w11).drew.trans hby)) | (go_at_call 24; refine (eqFuncType_all _ wy.heap.size [.slice ZparamsAx1 ZparamsNx1 ZparamsCx1, .int .i64 Zresult_kind, .string Zresult_name, .slice Zresult_labelsAx1 Zresult_labelsNx1 Zresult_labelsCx1, .slice Zresult_kidsAx1 Zresult_kidsNx1 Zresult_kidsCx1, .bool Zasync] [.slice ZparamsAy ZparamsNy ZparamsCy, .int .i64 Zresult_kind, .string Zresult_name, .slice Zresult_labelsAy Zresult_labelsNy Zresult_labelsCy, .slice Zresult_kidsAy Zresult_kidsNy Zresult_kidsCy, .bool Zasync] _ (Nat.le_refl _) (by exact Lxy.is) (by exact Ly.is)).mono ?_; rintro e w12 ⟨rfl, hbz⟩; have hbyz : Below w11.heap.size w11 w12 := ((Below.refl _ _).drew.trans hby).trans (hbz.mono hby.size)))
    have hb12 := hbyz
    have hs12 := hb12.size
    have hB12 := hB11.trans (hb12.mono hB11.size)
    replace Gw := Gw.step hb12
    replace Lx0 := Lx0.step hb12
    replace Lx1 := Lx1.step hb12
    replace Gg := Gg.step hb12
    replace b0 := b0.step hb12
    replace b1 := b1.step hb12
    replace bW := bW.step hb12
    replace bX0 := bX0.step hb12
    replace bX1 := bX1.step hb12
    replace bG := bG.step hb12
    clear hbyz hbz hby Lxy Ly TC hA hX
    clear c205_b10 c206_b11 c207_b12 c208_b13 c209_b14 c210_b15 c211_bX10 c212_bX11 c213_bX12 c214_bX13 c215_bX14 c216_bX15
    go_wp2_with fail
    go_ret
    exact ⟨rfl, hB12⟩

end Go.Proofs.YtbafphecjijdmaaGreatDoor
