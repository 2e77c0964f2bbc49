/-
  FnExactSamePlan: the law's walk (by program: lawgen2.py).
-/
import Derived.Test.YtnedcpoengcbaaaArg
import Derived.Test.YtnedcpoengcbaaaSz
import Derived.Test.YtnedcpoengcbaaaTo
import Derived.Test.YtnedcpoengcbaaaEq
import Derived.Test.YtnedcpoengcbaaaSamePlB
namespace Go.Proofs.Ytnedcpoengcbaaa
open Go.RowKit
set_option linter.unusedVariables false
set_option linter.unusedSimpArgs false
set_option linter.unnecessarySimpa false
set_option maxRecDepth 100000

set_option maxHeartbeats 6400000 in
theorem walk_FnExactSamePlan (w : World) (v0 : Value) (h0 : ArgPlan w v0) (v1 : Value) (h1 : ArgPlan w v1) :
    Calls Try.prog 4 #[v0, v1] w fun e w' => e = .returned (.bool true) ∧ Below w.heap.size w w' := by
  obtain ⟨t, cs, rfl, hwf, hr⟩ := h0
  obtain ⟨types, from_, to_, flat, mem⟩ := t
  obtain ⟨typesV, flatV, memV, rfl, _, _, _⟩ := Plan.open_ hr
  have WF0 := Lib.hid hwf
  have R0 := Lib.hid hr
  clear hwf hr
  obtain ⟨z0, hz⟩ : ∃ z : Nat, z = PD.szL (Plan.pd ⟨types, from_, to_, flat, mem⟩) := ⟨_, rfl⟩
  have Z0 := Lib.hid hz
  clear hz
  obtain ⟨t, cs, rfl, hwf, hr⟩ := h1
  obtain ⟨Ztypes, Zfrom_, Zto_, Zflat, Zmem⟩ := t
  obtain ⟨ZtypesV, ZflatV, ZmemV, rfl, _, _, _⟩ := Plan.open_ hr
  have WF1 := Lib.hid hwf
  have R1 := Lib.hid hr
  clear hwf hr
  obtain ⟨z1, hz⟩ : ∃ z : Nat, z = PD.szL (Plan.pd ⟨Ztypes, Zfrom_, Zto_, Zflat, Zmem⟩) := ⟨_, rfl⟩
  have Z1 := Lib.hid hz
  clear hz
  by_cases ht0 : z0 ≤ 1048576
  case neg =>
    go_enter Try.func4, Try.ntmps4
    go_wp2_with fail
    obtain ⟨w0, hw0⟩ : ∃ W, W = ((w.alloc (.cells #[typesV, .int .i64 from_, .int .i64 to_, flatV, memV] 37)).alloc (.cells #[ZtypesV, .int .i64 Zfrom_, .int .i64 Zto_, ZflatV, ZmemV] 37)) := ⟨_, rfl⟩
    rw [← hw0]
    have hB0 : Below w.heap.size w w0 := by rw [hw0]; exact ((Below.refl _ _).alloc (Nat.le_refl _) _).alloc (by simp) _
    have b0 : Blk w0 w.heap.size 37 #[typesV, .int .i64 from_, .int .i64 to_, flatV, memV] := by rw [hw0]; exact ((Blk.new w _ _).alloc _)
    have b1 : Blk w0 (w.heap.size + 1) 37 #[ZtypesV, .int .i64 Zfrom_, .int .i64 Zto_, ZflatV, ZmemV] := by rw [hw0]; exact by simpa using (Blk.new (w.alloc (.cells #[typesV, .int .i64 from_, .int .i64 to_, flatV, memV] 37)) _ _)
    clear hw0
    have hs0 := hB0.size
    refine (szPlan_all _ w.heap.size [typesV, .int .i64 from_, .int .i64 to_, flatV, memV] _ (1048576) (by omega) (by omega) hB0.size WF0.out (R0.out.below hB0)).mono ?_
    rintro e w1 ⟨rfl, hb1⟩
    have hs1 := hb1.size
    have hB1 := hB0.trans (hb1.mono hB0.size)
    replace b0 := b0.step hb1
    replace b1 := b1.step hb1
    rw [← Z0.out, szLeft_no (by omega)]
    go_wp2_with fail
    go_ret
    exact ⟨rfl, hB1⟩
  by_cases ht1 : z0 + z1 ≤ 1048576
  case neg =>
    go_enter Try.func4, Try.ntmps4
    go_wp2_with fail
    obtain ⟨w0, hw0⟩ : ∃ W, W = ((w.alloc (.cells #[typesV, .int .i64 from_, .int .i64 to_, flatV, memV] 37)).alloc (.cells #[ZtypesV, .int .i64 Zfrom_, .int .i64 Zto_, ZflatV, ZmemV] 37)) := ⟨_, rfl⟩
    rw [← hw0]
    have hB0 : Below w.heap.size w w0 := by rw [hw0]; exact ((Below.refl _ _).alloc (Nat.le_refl _) _).alloc (by simp) _
    have b0 : Blk w0 w.heap.size 37 #[typesV, .int .i64 from_, .int .i64 to_, flatV, memV] := by rw [hw0]; exact ((Blk.new w _ _).alloc _)
    have b1 : Blk w0 (w.heap.size + 1) 37 #[ZtypesV, .int .i64 Zfrom_, .int .i64 Zto_, ZflatV, ZmemV] := by rw [hw0]; exact by simpa using (Blk.new (w.alloc (.cells #[typesV, .int .i64 from_, .int .i64 to_, flatV, memV] 37)) _ _)
    clear hw0
    have hs0 := hB0.size
    refine (szPlan_all _ w.heap.size [typesV, .int .i64 from_, .int .i64 to_, flatV, memV] _ (1048576) (by omega) (by omega) hB0.size WF0.out (R0.out.below hB0)).mono ?_
    rintro e w1 ⟨rfl, hb1⟩
    have hs1 := hb1.size
    have hB1 := hB0.trans (hb1.mono hB0.size)
    replace b0 := b0.step hb1
    replace b1 := b1.step hb1
    rw [← Z0.out, szLeft_yes (by omega)]
    have hp0 : (0 : Int) ≤ 1048576 - (z0 : Int) := by omega
    have c1_b00 : w1.cell? ⟨w.heap.size, 0, none⟩ = some (typesV) := b0.cell 0
    have c2_b01 : w1.cell? ⟨w.heap.size, 1, none⟩ = some (.int .i64 from_) := b0.cell 1
    have c3_b02 : w1.cell? ⟨w.heap.size, 2, none⟩ = some (.int .i64 to_) := b0.cell 2
    have c4_b03 : w1.cell? ⟨w.heap.size, 3, none⟩ = some (flatV) := b0.cell 3
    have c5_b04 : w1.cell? ⟨w.heap.size, 4, none⟩ = some (memV) := b0.cell 4
    have c6_b10 : w1.cell? ⟨(w.heap.size + 1), 0, none⟩ = some (ZtypesV) := b1.cell 0
    have c7_b11 : w1.cell? ⟨(w.heap.size + 1), 1, none⟩ = some (.int .i64 Zfrom_) := b1.cell 1
    have c8_b12 : w1.cell? ⟨(w.heap.size + 1), 2, none⟩ = some (.int .i64 Zto_) := b1.cell 2
    have c9_b13 : w1.cell? ⟨(w.heap.size + 1), 3, none⟩ = some (ZflatV) := b1.cell 3
    have c10_b14 : w1.cell? ⟨(w.heap.size + 1), 4, none⟩ = some (ZmemV) := b1.cell 4
    go_wp2_with fail
    clear c1_b00 c2_b01 c3_b02 c4_b03 c5_b04 c6_b10 c7_b11 c8_b12 c9_b13 c10_b14
    refine (szPlan_all _ w.heap.size [ZtypesV, .int .i64 Zfrom_, .int .i64 Zto_, ZflatV, ZmemV] _ (1048576 - (z0 : Int)) (by omega) (by omega) hB1.size WF1.out (R1.out.below hB1)).mono ?_
    rintro e w2 ⟨rfl, hb2⟩
    have hs2 := hb2.size
    have hB2 := hB1.trans (hb2.mono hB1.size)
    replace b0 := b0.step hb2
    replace b1 := b1.step hb2
    rw [← Z1.out, szLeft_no (by omega)]
    go_wp2_with fail
    go_ret
    exact ⟨rfl, hB2⟩
  have SP := specSamePlan_ok (⟨types, from_, to_, flat, mem⟩ : Plan) (⟨Ztypes, Zfrom_, Zto_, Zflat, Zmem⟩ : Plan) WF0.out (by rw [← Z0.out]; omega) WF1.out (by rw [← Z1.out]; omega)
  have IM := implSamePlan_ok (⟨types, from_, to_, flat, mem⟩ : Plan) (⟨Ztypes, Zfrom_, Zto_, Zflat, Zmem⟩ : Plan) WF0.out (by rw [← Z0.out]; omega) WF1.out (by rw [← Z1.out]; omega)
  obtain ⟨r0, hrr⟩ : ∃ r : Bool, r = planEq ⟨types, from_, to_, flat, mem⟩ ⟨Ztypes, Zfrom_, Zto_, Zflat, Zmem⟩ := ⟨_, rfl⟩
  rw [← hrr] at SP IM
  clear hrr
  have hne0 : (r0 != r0) = false := by simp
  have SP' := Lib.hid SP
  have IM' := Lib.hid IM
  clear SP IM
  go_enter Try.func4, Try.ntmps4
  go_wp2_with fail
  obtain ⟨w0, hw0⟩ : ∃ W, W = ((w.alloc (.cells #[typesV, .int .i64 from_, .int .i64 to_, flatV, memV] 37)).alloc (.cells #[ZtypesV, .int .i64 Zfrom_, .int .i64 Zto_, ZflatV, ZmemV] 37)) := ⟨_, rfl⟩
  rw [← hw0]
  have hB0 : Below w.heap.size w w0 := by rw [hw0]; exact ((Below.refl _ _).alloc (Nat.le_refl _) _).alloc (by simp) _
  have b0 : Blk w0 w.heap.size 37 #[typesV, .int .i64 from_, .int .i64 to_, flatV, memV] := by rw [hw0]; exact ((Blk.new w _ _).alloc _)
  have b1 : Blk w0 (w.heap.size + 1) 37 #[ZtypesV, .int .i64 Zfrom_, .int .i64 Zto_, ZflatV, ZmemV] := by rw [hw0]; exact by simpa using (Blk.new (w.alloc (.cells #[typesV, .int .i64 from_, .int .i64 to_, flatV, memV] 37)) _ _)
  clear hw0
  have hs0 := hB0.size
  refine (szPlan_all _ w.heap.size [typesV, .int .i64 from_, .int .i64 to_, flatV, memV] _ (1048576) (by omega) (by omega) hB0.size WF0.out (R0.out.below hB0)).mono ?_
  rintro e w1 ⟨rfl, hb1⟩
  have hs1 := hb1.size
  have hB1 := hB0.trans (hb1.mono hB0.size)
  replace b0 := b0.step hb1
  replace b1 := b1.step hb1
  rw [← Z0.out, szLeft_yes (by omega)]
  have hp0 : (0 : Int) ≤ 1048576 - (z0 : Int) := by omega
  have c11_b00 : w1.cell? ⟨w.heap.size, 0, none⟩ = some (typesV) := b0.cell 0
  have c12_b01 : w1.cell? ⟨w.heap.size, 1, none⟩ = some (.int .i64 from_) := b0.cell 1
  have c13_b02 : w1.cell? ⟨w.heap.size, 2, none⟩ = some (.int .i64 to_) := b0.cell 2
  have c14_b03 : w1.cell? ⟨w.heap.size, 3, none⟩ = some (flatV) := b0.cell 3
  have c15_b04 : w1.cell? ⟨w.heap.size, 4, none⟩ = some (memV) := b0.cell 4
  have c16_b10 : w1.cell? ⟨(w.heap.size + 1), 0, none⟩ = some (ZtypesV) := b1.cell 0
  have c17_b11 : w1.cell? ⟨(w.heap.size + 1), 1, none⟩ = some (.int .i64 Zfrom_) := b1.cell 1
  have c18_b12 : w1.cell? ⟨(w.heap.size + 1), 2, none⟩ = some (.int .i64 Zto_) := b1.cell 2
  have c19_b13 : w1.cell? ⟨(w.heap.size + 1), 3, none⟩ = some (ZflatV) := b1.cell 3
  have c20_b14 : w1.cell? ⟨(w.heap.size + 1), 4, none⟩ = some (ZmemV) := b1.cell 4
  go_wp2_with fail
  clear c11_b00 c12_b01 c13_b02 c14_b03 c15_b04 c16_b10 c17_b11 c18_b12 c19_b13 c20_b14
  refine (szPlan_all _ w.heap.size [ZtypesV, .int .i64 Zfrom_, .int .i64 Zto_, ZflatV, ZmemV] _ (1048576 - (z0 : Int)) (by omega) (by omega) hB1.size WF1.out (R1.out.below hB1)).mono ?_
  rintro e w2 ⟨rfl, hb2⟩
  have hs2 := hb2.size
  have hB2 := hB1.trans (hb2.mono hB1.size)
  replace b0 := b0.step hb2
  replace b1 := b1.step hb2
  rw [← Z1.out, szLeft_yes (by omega)]
  have hp1 : (0 : Int) ≤ 1048576 - (z0 : Int) - (z1 : Int) := by omega
  have c21_b00 : w2.cell? ⟨w.heap.size, 0, none⟩ = some (typesV) := b0.cell 0
  have c22_b01 : w2.cell? ⟨w.heap.size, 1, none⟩ = some (.int .i64 from_) := b0.cell 1
  have c23_b02 : w2.cell? ⟨w.heap.size, 2, none⟩ = some (.int .i64 to_) := b0.cell 2
  have c24_b03 : w2.cell? ⟨w.heap.size, 3, none⟩ = some (flatV) := b0.cell 3
  have c25_b04 : w2.cell? ⟨w.heap.size, 4, none⟩ = some (memV) := b0.cell 4
  have c26_b10 : w2.cell? ⟨(w.heap.size + 1), 0, none⟩ = some (ZtypesV) := b1.cell 0
  have c27_b11 : w2.cell? ⟨(w.heap.size + 1), 1, none⟩ = some (.int .i64 Zfrom_) := b1.cell 1
  have c28_b12 : w2.cell? ⟨(w.heap.size + 1), 2, none⟩ = some (.int .i64 Zto_) := b1.cell 2
  have c29_b13 : w2.cell? ⟨(w.heap.size + 1), 3, none⟩ = some (ZflatV) := b1.cell 3
  have c30_b14 : w2.cell? ⟨(w.heap.size + 1), 4, none⟩ = some (ZmemV) := b1.cell 4
  go_wp2_with fail
  clear c21_b00 c22_b01 c23_b02 c24_b03 c25_b04 c26_b10 c27_b11 c28_b12 c29_b13 c30_b14
  have c31_b00 : w2.cell? ⟨w.heap.size, 0, none⟩ = some (typesV) := b0.cell 0
  have c32_b01 : w2.cell? ⟨w.heap.size, 1, none⟩ = some (.int .i64 from_) := b0.cell 1
  have c33_b02 : w2.cell? ⟨w.heap.size, 2, none⟩ = some (.int .i64 to_) := b0.cell 2
  have c34_b03 : w2.cell? ⟨w.heap.size, 3, none⟩ = some (flatV) := b0.cell 3
  have c35_b04 : w2.cell? ⟨w.heap.size, 4, none⟩ = some (memV) := b0.cell 4
  have c36_b10 : w2.cell? ⟨(w.heap.size + 1), 0, none⟩ = some (ZtypesV) := b1.cell 0
  have c37_b11 : w2.cell? ⟨(w.heap.size + 1), 1, none⟩ = some (.int .i64 Zfrom_) := b1.cell 1
  have c38_b12 : w2.cell? ⟨(w.heap.size + 1), 2, none⟩ = some (.int .i64 Zto_) := b1.cell 2
  have c39_b13 : w2.cell? ⟨(w.heap.size + 1), 3, none⟩ = some (ZflatV) := b1.cell 3
  have c40_b14 : w2.cell? ⟨(w.heap.size + 1), 4, none⟩ = some (ZmemV) := b1.cell 4
  have lt_b0 := b0.lt
  have lt_b1 := b1.lt
  go_region_held3 (fun w' => w'.cell? ⟨w.heap.size, 0, none⟩ = some (typesV) ∧ w'.cell? ⟨w.heap.size, 1, none⟩ = some (.int .i64 from_) ∧ w'.cell? ⟨w.heap.size, 2, none⟩ = some (.int .i64 to_) ∧ w'.cell? ⟨w.heap.size, 3, none⟩ = some (flatV) ∧ w'.cell? ⟨w.heap.size, 4, none⟩ = some (memV) ∧ w'.cell? ⟨(w.heap.size + 1), 0, none⟩ = some (ZtypesV) ∧ w'.cell? ⟨(w.heap.size + 1), 1, none⟩ = some (.int .i64 Zfrom_) ∧ w'.cell? ⟨(w.heap.size + 1), 2, none⟩ = some (.int .i64 Zto_) ∧ w'.cell? ⟨(w.heap.size + 1), 3, none⟩ = some (ZflatV) ∧ w'.cell? ⟨(w.heap.size + 1), 4, none⟩ = some (ZmemV))
    (first | go_keep | exact ⟨(hq0.cell (p := ⟨w.heap.size, 0, none⟩) lt_b0).trans c31_b00, (hq0.cell (p := ⟨w.heap.size, 1, none⟩) lt_b0).trans c32_b01, (hq0.cell (p := ⟨w.heap.size, 2, none⟩) lt_b0).trans c33_b02, (hq0.cell (p := ⟨w.heap.size, 3, none⟩) lt_b0).trans c34_b03, (hq0.cell (p := ⟨w.heap.size, 4, none⟩) lt_b0).trans c35_b04, (hq0.cell (p := ⟨(w.heap.size + 1), 0, none⟩) lt_b1).trans c36_b10, (hq0.cell (p := ⟨(w.heap.size + 1), 1, none⟩) lt_b1).trans c37_b11, (hq0.cell (p := ⟨(w.heap.size + 1), 2, none⟩) lt_b1).trans c38_b12, (hq0.cell (p := ⟨(w.heap.size + 1), 3, none⟩) lt_b1).trans c39_b13, (hq0.cell (p := ⟨(w.heap.size + 1), 4, none⟩) lt_b1).trans c40_b14⟩ | exact ⟨(hq1.cell (p := ⟨w.heap.size, 0, none⟩) lt_b0).trans c31_b00, (hq1.cell (p := ⟨w.heap.size, 1, none⟩) lt_b0).trans c32_b01, (hq1.cell (p := ⟨w.heap.size, 2, none⟩) lt_b0).trans c33_b02, (hq1.cell (p := ⟨w.heap.size, 3, none⟩) lt_b0).trans c34_b03, (hq1.cell (p := ⟨w.heap.size, 4, none⟩) lt_b0).trans c35_b04, (hq1.cell (p := ⟨(w.heap.size + 1), 0, none⟩) lt_b1).trans c36_b10, (hq1.cell (p := ⟨(w.heap.size + 1), 1, none⟩) lt_b1).trans c37_b11, (hq1.cell (p := ⟨(w.heap.size + 1), 2, none⟩) lt_b1).trans c38_b12, (hq1.cell (p := ⟨(w.heap.size + 1), 3, none⟩) lt_b1).trans c39_b13, (hq1.cell (p := ⟨(w.heap.size + 1), 4, none⟩) lt_b1).trans c40_b14⟩ | exact ⟨(hqZ.cell (p := ⟨w.heap.size, 0, none⟩) lt_b0).trans c31_b00, (hqZ.cell (p := ⟨w.heap.size, 1, none⟩) lt_b0).trans c32_b01, (hqZ.cell (p := ⟨w.heap.size, 2, none⟩) lt_b0).trans c33_b02, (hqZ.cell (p := ⟨w.heap.size, 3, none⟩) lt_b0).trans c34_b03, (hqZ.cell (p := ⟨w.heap.size, 4, none⟩) lt_b0).trans c35_b04, (hqZ.cell (p := ⟨(w.heap.size + 1), 0, none⟩) lt_b1).trans c36_b10, (hqZ.cell (p := ⟨(w.heap.size + 1), 1, none⟩) lt_b1).trans c37_b11, (hqZ.cell (p := ⟨(w.heap.size + 1), 2, none⟩) lt_b1).trans c38_b12, (hqZ.cell (p := ⟨(w.heap.size + 1), 3, none⟩) lt_b1).trans c39_b13, (hqZ.cell (p := ⟨(w.heap.size + 1), 4, none⟩) lt_b1).trans c40_b14⟩)
    (first | (go_at_call_of 13 typesV; refine (toPlan_all _ w.heap.size [typesV, .int .i64 from_, .int .i64 to_, flatV, memV] _ (by exact hB2.drew.size) (by rw [← Z0.out]; omega) (by exact R0.out.below hB2.drew)).mono ?_; rintro e wq0 ⟨us0, rfl, Ls0, hbq⟩; have Ks0 := Ls0; obtain ⟨typesAs0, typesNs0, typesCs0, flatAs0, flatNs0, flatCs0, memAs0, memNs0, memCs0, rfl⟩ := Plan.lopen Ks0; have hq0 : Below w2.heap.size w2 wq0 := (Below.refl _ _).drew.trans hbq; have hBq0 := hB2.trans (hq0.mono hB2.size)) | (go_at_call_of 13 ZtypesV; refine (toPlan_all _ w.heap.size [ZtypesV, .int .i64 Zfrom_, .int .i64 Zto_, ZflatV, ZmemV] _ (by exact hBq0.size) (by rw [← Z1.out]; omega) (by exact R1.out.below hBq0)).mono ?_; rintro e wq1 ⟨us1, rfl, Ls1, hbq⟩; have Ks1 := Ls1; obtain ⟨ZtypesAs1, ZtypesNs1, ZtypesCs1, ZflatAs1, ZflatNs1, ZflatCs1, ZmemAs1, ZmemNs1, ZmemCs1, rfl⟩ := Plan.lopen Ks1; have hq1 : Below w2.heap.size w2 wq1 := hq0.trans (hbq.mono hq0.size); have hBq1 := hB2.trans (hq1.mono hB2.size); replace Ls0 := Ls0.step hbq) | (go_at_call 12; refine (SP'.out wq1.heap.size [.slice typesAs0 typesNs0 typesCs0, .int .i64 from_, .int .i64 to_, .slice flatAs0 flatNs0 flatCs0, .slice memAs0 memNs0 memCs0] [.slice ZtypesAs1 ZtypesNs1 ZtypesCs1, .int .i64 Zfrom_, .int .i64 Zto_, .slice ZflatAs1 ZflatNs1 ZflatCs1, .slice ZmemAs1 ZmemNs1 ZmemCs1] _ (Nat.le_refl _) (by exact Ls0.is) (by exact Ls1.is)).mono ?_; rintro e w3 ⟨rfl, hbq⟩; have hqZ := hq1.trans (hbq.mono hq1.size)))
  have hb3 := hqZ
  have hs3 := hb3.size
  have hB3 := hB2.trans (hb3.mono hB2.size)
  replace b0 := b0.step hb3
  replace b1 := b1.step hb3
  clear hqZ hbq Ls0 Ls1 hq0 hBq0 hq1 hBq1
  clear lt_b0 lt_b1
  clear c31_b00 c32_b01 c33_b02 c34_b03 c35_b04 c36_b10 c37_b11 c38_b12 c39_b13 c40_b14
  have c41_b00 : w3.cell? ⟨w.heap.size, 0, none⟩ = some (typesV) := b0.cell 0
  have c42_b01 : w3.cell? ⟨w.heap.size, 1, none⟩ = some (.int .i64 from_) := b0.cell 1
  have c43_b02 : w3.cell? ⟨w.heap.size, 2, none⟩ = some (.int .i64 to_) := b0.cell 2
  have c44_b03 : w3.cell? ⟨w.heap.size, 3, none⟩ = some (flatV) := b0.cell 3
  have c45_b04 : w3.cell? ⟨w.heap.size, 4, none⟩ = some (memV) := b0.cell 4
  have c46_b10 : w3.cell? ⟨(w.heap.size + 1), 0, none⟩ = some (ZtypesV) := b1.cell 0
  have c47_b11 : w3.cell? ⟨(w.heap.size + 1), 1, none⟩ = some (.int .i64 Zfrom_) := b1.cell 1
  have c48_b12 : w3.cell? ⟨(w.heap.size + 1), 2, none⟩ = some (.int .i64 Zto_) := b1.cell 2
  have c49_b13 : w3.cell? ⟨(w.heap.size + 1), 3, none⟩ = some (ZflatV) := b1.cell 3
  have c50_b14 : w3.cell? ⟨(w.heap.size + 1), 4, none⟩ = some (ZmemV) := b1.cell 4
  go_wp2_with fail
  clear c41_b00 c42_b01 c43_b02 c44_b03 c45_b04 c46_b10 c47_b11 c48_b12 c49_b13 c50_b14
  refine (toPlan_all _ w.heap.size [typesV, .int .i64 from_, .int .i64 to_, flatV, memV] _ hB3.size (by rw [← Z0.out]; omega) (R0.out.below hB3)).mono ?_
  rintro e w4 ⟨ux0, rfl, Lx0, hb4⟩
  have hs4 := hb4.size
  have hB4 := hB3.trans (hb4.mono hB3.size)
  replace b0 := b0.step hb4
  replace b1 := b1.step hb4
  have Kx0 := Lx0
  obtain ⟨typesAx0, typesNx0, typesCx0, flatAx0, flatNx0, flatCx0, memAx0, memNx0, memCx0, rfl⟩ := Plan.lopen Kx0
  clear Kx0
  obtain ⟨w5, hw5⟩ : ∃ W, W = (w4.alloc (.cells #[.slice typesAx0 typesNx0 typesCx0, .int .i64 from_, .int .i64 to_, .slice flatAx0 flatNx0 flatCx0, .slice memAx0 memNx0 memCx0] 43)) := ⟨_, rfl⟩
  have hb5 : Below w4.heap.size w4 w5 := by rw [hw5]; exact (Below.refl _ _).alloc (Nat.le_refl _) _
  have bX0 : Blk w5 w4.heap.size 43 #[.slice typesAx0 typesNx0 typesCx0, .int .i64 from_, .int .i64 to_, .slice flatAx0 flatNx0 flatCx0, .slice memAx0 memNx0 memCx0] := by rw [hw5]; exact Blk.new w4 _ _
  have HW5 := Lib.hid hw5
  clear hw5
  have hs5 := hb5.size
  have hB5 := hB4.trans (hb5.mono hB4.size)
  replace Lx0 := Lx0.step hb5
  replace b0 := b0.step hb5
  replace b1 := b1.step hb5
  have c51_b00 : (w4.alloc (.cells #[.slice typesAx0 typesNx0 typesCx0, .int .i64 from_, .int .i64 to_, .slice flatAx0 flatNx0 flatCx0, .slice memAx0 memNx0 memCx0] 43)).cell? ⟨w.heap.size, 0, none⟩ = some (typesV) := by rw [← HW5.out]; exact b0.cell 0
  have c52_b01 : (w4.alloc (.cells #[.slice typesAx0 typesNx0 typesCx0, .int .i64 from_, .int .i64 to_, .slice flatAx0 flatNx0 flatCx0, .slice memAx0 memNx0 memCx0] 43)).cell? ⟨w.heap.size, 1, none⟩ = some (.int .i64 from_) := by rw [← HW5.out]; exact b0.cell 1
  have c53_b02 : (w4.alloc (.cells #[.slice typesAx0 typesNx0 typesCx0, .int .i64 from_, .int .i64 to_, .slice flatAx0 flatNx0 flatCx0, .slice memAx0 memNx0 memCx0] 43)).cell? ⟨w.heap.size, 2, none⟩ = some (.int .i64 to_) := by rw [← HW5.out]; exact b0.cell 2
  have c54_b03 : (w4.alloc (.cells #[.slice typesAx0 typesNx0 typesCx0, .int .i64 from_, .int .i64 to_, .slice flatAx0 flatNx0 flatCx0, .slice memAx0 memNx0 memCx0] 43)).cell? ⟨w.heap.size, 3, none⟩ = some (flatV) := by rw [← HW5.out]; exact b0.cell 3
  have c55_b04 : (w4.alloc (.cells #[.slice typesAx0 typesNx0 typesCx0, .int .i64 from_, .int .i64 to_, .slice flatAx0 flatNx0 flatCx0, .slice memAx0 memNx0 memCx0] 43)).cell? ⟨w.heap.size, 4, none⟩ = some (memV) := by rw [← HW5.out]; exact b0.cell 4
  have c56_b10 : (w4.alloc (.cells #[.slice typesAx0 typesNx0 typesCx0, .int .i64 from_, .int .i64 to_, .slice flatAx0 flatNx0 flatCx0, .slice memAx0 memNx0 memCx0] 43)).cell? ⟨(w.heap.size + 1), 0, none⟩ = some (ZtypesV) := by rw [← HW5.out]; exact b1.cell 0
  have c57_b11 : (w4.alloc (.cells #[.slice typesAx0 typesNx0 typesCx0, .int .i64 from_, .int .i64 to_, .slice flatAx0 flatNx0 flatCx0, .slice memAx0 memNx0 memCx0] 43)).cell? ⟨(w.heap.size + 1), 1, none⟩ = some (.int .i64 Zfrom_) := by rw [← HW5.out]; exact b1.cell 1
  have c58_b12 : (w4.alloc (.cells #[.slice typesAx0 typesNx0 typesCx0, .int .i64 from_, .int .i64 to_, .slice flatAx0 flatNx0 flatCx0, .slice memAx0 memNx0 memCx0] 43)).cell? ⟨(w.heap.size + 1), 2, none⟩ = some (.int .i64 Zto_) := by rw [← HW5.out]; exact b1.cell 2
  have c59_b13 : (w4.alloc (.cells #[.slice typesAx0 typesNx0 typesCx0, .int .i64 from_, .int .i64 to_, .slice flatAx0 flatNx0 flatCx0, .slice memAx0 memNx0 memCx0] 43)).cell? ⟨(w.heap.size + 1), 3, none⟩ = some (ZflatV) := by rw [← HW5.out]; exact b1.cell 3
  have c60_b14 : (w4.alloc (.cells #[.slice typesAx0 typesNx0 typesCx0, .int .i64 from_, .int .i64 to_, .slice flatAx0 flatNx0 flatCx0, .slice memAx0 memNx0 memCx0] 43)).cell? ⟨(w.heap.size + 1), 4, none⟩ = some (ZmemV) := by rw [← HW5.out]; exact b1.cell 4
  have c61_bX00 : (w4.alloc (.cells #[.slice typesAx0 typesNx0 typesCx0, .int .i64 from_, .int .i64 to_, .slice flatAx0 flatNx0 flatCx0, .slice memAx0 memNx0 memCx0] 43)).cell? ⟨w4.heap.size, 0, none⟩ = some (.slice typesAx0 typesNx0 typesCx0) := by rw [← HW5.out]; exact bX0.cell 0
  have c62_bX01 : (w4.alloc (.cells #[.slice typesAx0 typesNx0 typesCx0, .int .i64 from_, .int .i64 to_, .slice flatAx0 flatNx0 flatCx0, .slice memAx0 memNx0 memCx0] 43)).cell? ⟨w4.heap.size, 1, none⟩ = some (.int .i64 from_) := by rw [← HW5.out]; exact bX0.cell 1
  have c63_bX02 : (w4.alloc (.cells #[.slice typesAx0 typesNx0 typesCx0, .int .i64 from_, .int .i64 to_, .slice flatAx0 flatNx0 flatCx0, .slice memAx0 memNx0 memCx0] 43)).cell? ⟨w4.heap.size, 2, none⟩ = some (.int .i64 to_) := by rw [← HW5.out]; exact bX0.cell 2
  have c64_bX03 : (w4.alloc (.cells #[.slice typesAx0 typesNx0 typesCx0, .int .i64 from_, .int .i64 to_, .slice flatAx0 flatNx0 flatCx0, .slice memAx0 memNx0 memCx0] 43)).cell? ⟨w4.heap.size, 3, none⟩ = some (.slice flatAx0 flatNx0 flatCx0) := by rw [← HW5.out]; exact bX0.cell 3
  have c65_bX04 : (w4.alloc (.cells #[.slice typesAx0 typesNx0 typesCx0, .int .i64 from_, .int .i64 to_, .slice flatAx0 flatNx0 flatCx0, .slice memAx0 memNx0 memCx0] 43)).cell? ⟨w4.heap.size, 4, none⟩ = some (.slice memAx0 memNx0 memCx0) := by rw [← HW5.out]; exact bX0.cell 4
  go_wp2_with fail
  rw [← HW5.out]
  clear c51_b00 c52_b01 c53_b02 c54_b03 c55_b04 c56_b10 c57_b11 c58_b12 c59_b13 c60_b14 c61_bX00 c62_bX01 c63_bX02 c64_bX03 c65_bX04
  clear HW5
  refine (toPlan_all _ w.heap.size [ZtypesV, .int .i64 Zfrom_, .int .i64 Zto_, ZflatV, ZmemV] _ hB5.size (by rw [← Z1.out]; omega) (R1.out.below hB5)).mono ?_
  rintro e w6 ⟨ux1, rfl, Lx1, hb6⟩
  have hs6 := hb6.size
  have hB6 := hB5.trans (hb6.mono hB5.size)
  replace Lx0 := Lx0.step hb6
  replace b0 := b0.step hb6
  replace b1 := b1.step hb6
  replace bX0 := bX0.step hb6
  have Kx1 := Lx1
  obtain ⟨ZtypesAx1, ZtypesNx1, ZtypesCx1, ZflatAx1, ZflatNx1, ZflatCx1, ZmemAx1, ZmemNx1, ZmemCx1, rfl⟩ := Plan.lopen Kx1
  clear Kx1
  obtain ⟨w7, hw7⟩ : ∃ W, W = (w6.alloc (.cells #[.slice ZtypesAx1 ZtypesNx1 ZtypesCx1, .int .i64 Zfrom_, .int .i64 Zto_, .slice ZflatAx1 ZflatNx1 ZflatCx1, .slice ZmemAx1 ZmemNx1 ZmemCx1] 43)) := ⟨_, rfl⟩
  have hb7 : Below w6.heap.size w6 w7 := by rw [hw7]; exact (Below.refl _ _).alloc (Nat.le_refl _) _
  have bX1 : Blk w7 w6.heap.size 43 #[.slice ZtypesAx1 ZtypesNx1 ZtypesCx1, .int .i64 Zfrom_, .int .i64 Zto_, .slice ZflatAx1 ZflatNx1 ZflatCx1, .slice ZmemAx1 ZmemNx1 ZmemCx1] := by rw [hw7]; exact Blk.new w6 _ _
  have HW7 := Lib.hid hw7
  clear hw7
  have hs7 := hb7.size
  have hB7 := hB6.trans (hb7.mono hB6.size)
  replace Lx0 := Lx0.step hb7
  replace Lx1 := Lx1.step hb7
  replace b0 := b0.step hb7
  replace b1 := b1.step hb7
  replace bX0 := bX0.step hb7
  have c66_b00 : (w6.alloc (.cells #[.slice ZtypesAx1 ZtypesNx1 ZtypesCx1, .int .i64 Zfrom_, .int .i64 Zto_, .slice ZflatAx1 ZflatNx1 ZflatCx1, .slice ZmemAx1 ZmemNx1 ZmemCx1] 43)).cell? ⟨w.heap.size, 0, none⟩ = some (typesV) := by rw [← HW7.out]; exact b0.cell 0
  have c67_b01 : (w6.alloc (.cells #[.slice ZtypesAx1 ZtypesNx1 ZtypesCx1, .int .i64 Zfrom_, .int .i64 Zto_, .slice ZflatAx1 ZflatNx1 ZflatCx1, .slice ZmemAx1 ZmemNx1 ZmemCx1] 43)).cell? ⟨w.heap.size, 1, none⟩ = some (.int .i64 from_) := by rw [← HW7.out]; exact b0.cell 1
  have c68_b02 : (w6.alloc (.cells #[.slice ZtypesAx1 ZtypesNx1 ZtypesCx1, .int .i64 Zfrom_, .int .i64 Zto_, .slice ZflatAx1 ZflatNx1 ZflatCx1, .slice ZmemAx1 ZmemNx1 ZmemCx1] 43)).cell? ⟨w.heap.size, 2, none⟩ = some (.int .i64 to_) := by rw [← HW7.out]; exact b0.cell 2
  have c69_b03 : (w6.alloc (.cells #[.slice ZtypesAx1 ZtypesNx1 ZtypesCx1, .int .i64 Zfrom_, .int .i64 Zto_, .slice ZflatAx1 ZflatNx1 ZflatCx1, .slice ZmemAx1 ZmemNx1 ZmemCx1] 43)).cell? ⟨w.heap.size, 3, none⟩ = some (flatV) := by rw [← HW7.out]; exact b0.cell 3
  have c70_b04 : (w6.alloc (.cells #[.slice ZtypesAx1 ZtypesNx1 ZtypesCx1, .int .i64 Zfrom_, .int .i64 Zto_, .slice ZflatAx1 ZflatNx1 ZflatCx1, .slice ZmemAx1 ZmemNx1 ZmemCx1] 43)).cell? ⟨w.heap.size, 4, none⟩ = some (memV) := by rw [← HW7.out]; exact b0.cell 4
  have c71_b10 : (w6.alloc (.cells #[.slice ZtypesAx1 ZtypesNx1 ZtypesCx1, .int .i64 Zfrom_, .int .i64 Zto_, .slice ZflatAx1 ZflatNx1 ZflatCx1, .slice ZmemAx1 ZmemNx1 ZmemCx1] 43)).cell? ⟨(w.heap.size + 1), 0, none⟩ = some (ZtypesV) := by rw [← HW7.out]; exact b1.cell 0
  have c72_b11 : (w6.alloc (.cells #[.slice ZtypesAx1 ZtypesNx1 ZtypesCx1, .int .i64 Zfrom_, .int .i64 Zto_, .slice ZflatAx1 ZflatNx1 ZflatCx1, .slice ZmemAx1 ZmemNx1 ZmemCx1] 43)).cell? ⟨(w.heap.size + 1), 1, none⟩ = some (.int .i64 Zfrom_) := by rw [← HW7.out]; exact b1.cell 1
  have c73_b12 : (w6.alloc (.cells #[.slice ZtypesAx1 ZtypesNx1 ZtypesCx1, .int .i64 Zfrom_, .int .i64 Zto_, .slice ZflatAx1 ZflatNx1 ZflatCx1, .slice ZmemAx1 ZmemNx1 ZmemCx1] 43)).cell? ⟨(w.heap.size + 1), 2, none⟩ = some (.int .i64 Zto_) := by rw [← HW7.out]; exact b1.cell 2
  have c74_b13 : (w6.alloc (.cells #[.slice ZtypesAx1 ZtypesNx1 ZtypesCx1, .int .i64 Zfrom_, .int .i64 Zto_, .slice ZflatAx1 ZflatNx1 ZflatCx1, .slice ZmemAx1 ZmemNx1 ZmemCx1] 43)).cell? ⟨(w.heap.size + 1), 3, none⟩ = some (ZflatV) := by rw [← HW7.out]; exact b1.cell 3
  have c75_b14 : (w6.alloc (.cells #[.slice ZtypesAx1 ZtypesNx1 ZtypesCx1, .int .i64 Zfrom_, .int .i64 Zto_, .slice ZflatAx1 ZflatNx1 ZflatCx1, .slice ZmemAx1 ZmemNx1 ZmemCx1] 43)).cell? ⟨(w.heap.size + 1), 4, none⟩ = some (ZmemV) := by rw [← HW7.out]; exact b1.cell 4
  have c76_bX00 : (w6.alloc (.cells #[.slice ZtypesAx1 ZtypesNx1 ZtypesCx1, .int .i64 Zfrom_, .int .i64 Zto_, .slice ZflatAx1 ZflatNx1 ZflatCx1, .slice ZmemAx1 ZmemNx1 ZmemCx1] 43)).cell? ⟨w4.heap.size, 0, none⟩ = some (.slice typesAx0 typesNx0 typesCx0) := by rw [← HW7.out]; exact bX0.cell 0
  have c77_bX01 : (w6.alloc (.cells #[.slice ZtypesAx1 ZtypesNx1 ZtypesCx1, .int .i64 Zfrom_, .int .i64 Zto_, .slice ZflatAx1 ZflatNx1 ZflatCx1, .slice ZmemAx1 ZmemNx1 ZmemCx1] 43)).cell? ⟨w4.heap.size, 1, none⟩ = some (.int .i64 from_) := by rw [← HW7.out]; exact bX0.cell 1
  have c78_bX02 : (w6.alloc (.cells #[.slice ZtypesAx1 ZtypesNx1 ZtypesCx1, .int .i64 Zfrom_, .int .i64 Zto_, .slice ZflatAx1 ZflatNx1 ZflatCx1, .slice ZmemAx1 ZmemNx1 ZmemCx1] 43)).cell? ⟨w4.heap.size, 2, none⟩ = some (.int .i64 to_) := by rw [← HW7.out]; exact bX0.cell 2
  have c79_bX03 : (w6.alloc (.cells #[.slice ZtypesAx1 ZtypesNx1 ZtypesCx1, .int .i64 Zfrom_, .int .i64 Zto_, .slice ZflatAx1 ZflatNx1 ZflatCx1, .slice ZmemAx1 ZmemNx1 ZmemCx1] 43)).cell? ⟨w4.heap.size, 3, none⟩ = some (.slice flatAx0 flatNx0 flatCx0) := by rw [← HW7.out]; exact bX0.cell 3
  have c80_bX04 : (w6.alloc (.cells #[.slice ZtypesAx1 ZtypesNx1 ZtypesCx1, .int .i64 Zfrom_, .int .i64 Zto_, .slice ZflatAx1 ZflatNx1 ZflatCx1, .slice ZmemAx1 ZmemNx1 ZmemCx1] 43)).cell? ⟨w4.heap.size, 4, none⟩ = some (.slice memAx0 memNx0 memCx0) := by rw [← HW7.out]; exact bX0.cell 4
  have c81_bX10 : (w6.alloc (.cells #[.slice ZtypesAx1 ZtypesNx1 ZtypesCx1, .int .i64 Zfrom_, .int .i64 Zto_, .slice ZflatAx1 ZflatNx1 ZflatCx1, .slice ZmemAx1 ZmemNx1 ZmemCx1] 43)).cell? ⟨w6.heap.size, 0, none⟩ = some (.slice ZtypesAx1 ZtypesNx1 ZtypesCx1) := by rw [← HW7.out]; exact bX1.cell 0
  have c82_bX11 : (w6.alloc (.cells #[.slice ZtypesAx1 ZtypesNx1 ZtypesCx1, .int .i64 Zfrom_, .int .i64 Zto_, .slice ZflatAx1 ZflatNx1 ZflatCx1, .slice ZmemAx1 ZmemNx1 ZmemCx1] 43)).cell? ⟨w6.heap.size, 1, none⟩ = some (.int .i64 Zfrom_) := by rw [← HW7.out]; exact bX1.cell 1
  have c83_bX12 : (w6.alloc (.cells #[.slice ZtypesAx1 ZtypesNx1 ZtypesCx1, .int .i64 Zfrom_, .int .i64 Zto_, .slice ZflatAx1 ZflatNx1 ZflatCx1, .slice ZmemAx1 ZmemNx1 ZmemCx1] 43)).cell? ⟨w6.heap.size, 2, none⟩ = some (.int .i64 Zto_) := by rw [← HW7.out]; exact bX1.cell 2
  have c84_bX13 : (w6.alloc (.cells #[.slice ZtypesAx1 ZtypesNx1 ZtypesCx1, .int .i64 Zfrom_, .int .i64 Zto_, .slice ZflatAx1 ZflatNx1 ZflatCx1, .slice ZmemAx1 ZmemNx1 ZmemCx1] 43)).cell? ⟨w6.heap.size, 3, none⟩ = some (.slice ZflatAx1 ZflatNx1 ZflatCx1) := by rw [← HW7.out]; exact bX1.cell 3
  have c85_bX14 : (w6.alloc (.cells #[.slice ZtypesAx1 ZtypesNx1 ZtypesCx1, .int .i64 Zfrom_, .int .i64 Zto_, .slice ZflatAx1 ZflatNx1 ZflatCx1, .slice ZmemAx1 ZmemNx1 ZmemCx1] 43)).cell? ⟨w6.heap.size, 4, none⟩ = some (.slice ZmemAx1 ZmemNx1 ZmemCx1) := by rw [← HW7.out]; exact bX1.cell 4
  go_wp2_with fail
  rw [← HW7.out]
  clear c66_b00 c67_b01 c68_b02 c69_b03 c70_b04 c71_b10 c72_b11 c73_b12 c74_b13 c75_b14 c76_bX00 c77_bX01 c78_bX02 c79_bX03 c80_bX04 c81_bX10 c82_bX11 c83_bX12 c84_bX13 c85_bX14
  clear HW7
  refine (IM'.out w7.heap.size [.slice typesAx0 typesNx0 typesCx0, .int .i64 from_, .int .i64 to_, .slice flatAx0 flatNx0 flatCx0, .slice memAx0 memNx0 memCx0] [.slice ZtypesAx1 ZtypesNx1 ZtypesCx1, .int .i64 Zfrom_, .int .i64 Zto_, .slice ZflatAx1 ZflatNx1 ZflatCx1, .slice ZmemAx1 ZmemNx1 ZmemCx1] _ (Nat.le_refl _) Lx0.is Lx1.is).mono ?_
  rintro e w8 ⟨rfl, hb8⟩
  have hs8 := hb8.size
  have hB8 := hB7.trans (hb8.mono hB7.size)
  replace Lx0 := Lx0.step hb8
  replace Lx1 := Lx1.step hb8
  replace b0 := b0.step hb8
  replace b1 := b1.step hb8
  replace bX0 := bX0.step hb8
  replace bX1 := bX1.step hb8
  have c86_b00 : w8.cell? ⟨w.heap.size, 0, none⟩ = some (typesV) := b0.cell 0
  have c87_b01 : w8.cell? ⟨w.heap.size, 1, none⟩ = some (.int .i64 from_) := b0.cell 1
  have c88_b02 : w8.cell? ⟨w.heap.size, 2, none⟩ = some (.int .i64 to_) := b0.cell 2
  have c89_b03 : w8.cell? ⟨w.heap.size, 3, none⟩ = some (flatV) := b0.cell 3
  have c90_b04 : w8.cell? ⟨w.heap.size, 4, none⟩ = some (memV) := b0.cell 4
  have c91_b10 : w8.cell? ⟨(w.heap.size + 1), 0, none⟩ = some (ZtypesV) := b1.cell 0
  have c92_b11 : w8.cell? ⟨(w.heap.size + 1), 1, none⟩ = some (.int .i64 Zfrom_) := b1.cell 1
  have c93_b12 : w8.cell? ⟨(w.heap.size + 1), 2, none⟩ = some (.int .i64 Zto_) := b1.cell 2
  have c94_b13 : w8.cell? ⟨(w.heap.size + 1), 3, none⟩ = some (ZflatV) := b1.cell 3
  have c95_b14 : w8.cell? ⟨(w.heap.size + 1), 4, none⟩ = some (ZmemV) := b1.cell 4
  have c96_bX00 : w8.cell? ⟨w4.heap.size, 0, none⟩ = some (.slice typesAx0 typesNx0 typesCx0) := bX0.cell 0
  have c97_bX01 : w8.cell? ⟨w4.heap.size, 1, none⟩ = some (.int .i64 from_) := bX0.cell 1
  have c98_bX02 : w8.cell? ⟨w4.heap.size, 2, none⟩ = some (.int .i64 to_) := bX0.cell 2
  have c99_bX03 : w8.cell? ⟨w4.heap.size, 3, none⟩ = some (.slice flatAx0 flatNx0 flatCx0) := bX0.cell 3
  have c100_bX04 : w8.cell? ⟨w4.heap.size, 4, none⟩ = some (.slice memAx0 memNx0 memCx0) := bX0.cell 4
  have c101_bX10 : w8.cell? ⟨w6.heap.size, 0, none⟩ = some (.slice ZtypesAx1 ZtypesNx1 ZtypesCx1) := bX1.cell 0
  have c102_bX11 : w8.cell? ⟨w6.heap.size, 1, none⟩ = some (.int .i64 Zfrom_) := bX1.cell 1
  have c103_bX12 : w8.cell? ⟨w6.heap.size, 2, none⟩ = some (.int .i64 Zto_) := bX1.cell 2
  have c104_bX13 : w8.cell? ⟨w6.heap.size, 3, none⟩ = some (.slice ZflatAx1 ZflatNx1 ZflatCx1) := bX1.cell 3
  have c105_bX14 : w8.cell? ⟨w6.heap.size, 4, none⟩ = some (.slice ZmemAx1 ZmemNx1 ZmemCx1) := bX1.cell 4
  go_wp2_with fail
  clear c86_b00 c87_b01 c88_b02 c89_b03 c90_b04 c91_b10 c92_b11 c93_b12 c94_b13 c95_b14 c96_bX00 c97_bX01 c98_bX02 c99_bX03 c100_bX04 c101_bX10 c102_bX11 c103_bX12 c104_bX13 c105_bX14
  have c106_b00 : w8.cell? ⟨w.heap.size, 0, none⟩ = some (typesV) := b0.cell 0
  have c107_b01 : w8.cell? ⟨w.heap.size, 1, none⟩ = some (.int .i64 from_) := b0.cell 1
  have c108_b02 : w8.cell? ⟨w.heap.size, 2, none⟩ = some (.int .i64 to_) := b0.cell 2
  have c109_b03 : w8.cell? ⟨w.heap.size, 3, none⟩ = some (flatV) := b0.cell 3
  have c110_b04 : w8.cell? ⟨w.heap.size, 4, none⟩ = some (memV) := b0.cell 4
  have c111_bX00 : w8.cell? ⟨w4.heap.size, 0, none⟩ = some (.slice typesAx0 typesNx0 typesCx0) := bX0.cell 0
  have c112_bX01 : w8.cell? ⟨w4.heap.size, 1, none⟩ = some (.int .i64 from_) := bX0.cell 1
  have c113_bX02 : w8.cell? ⟨w4.heap.size, 2, none⟩ = some (.int .i64 to_) := bX0.cell 2
  have c114_bX03 : w8.cell? ⟨w4.heap.size, 3, none⟩ = some (.slice flatAx0 flatNx0 flatCx0) := bX0.cell 3
  have c115_bX04 : w8.cell? ⟨w4.heap.size, 4, none⟩ = some (.slice memAx0 memNx0 memCx0) := bX0.cell 4
  have hA := b0.lt
  have hX := bX0.lt
  have TC := Lib.hid (toPlan_all _ w.heap.size [typesV, .int .i64 from_, .int .i64 to_, flatV, memV] w8.drew hB8.size (by rw [← Z0.out]; omega) (by exact R0.out.below hB8.drew))
  go_region_held3 (fun w' => w'.cell? ⟨w.heap.size, 0, none⟩ = some (typesV) ∧ w'.cell? ⟨w.heap.size, 1, none⟩ = some (.int .i64 from_) ∧ w'.cell? ⟨w.heap.size, 2, none⟩ = some (.int .i64 to_) ∧ w'.cell? ⟨w.heap.size, 3, none⟩ = some (flatV) ∧ w'.cell? ⟨w.heap.size, 4, none⟩ = some (memV) ∧ w'.cell? ⟨w4.heap.size, 0, none⟩ = some (.slice typesAx0 typesNx0 typesCx0) ∧ w'.cell? ⟨w4.heap.size, 1, none⟩ = some (.int .i64 from_) ∧ w'.cell? ⟨w4.heap.size, 2, none⟩ = some (.int .i64 to_) ∧ w'.cell? ⟨w4.heap.size, 3, none⟩ = some (.slice flatAx0 flatNx0 flatCx0) ∧ w'.cell? ⟨w4.heap.size, 4, none⟩ = some (.slice memAx0 memNx0 memCx0))
    (first | go_keep | exact ⟨(hby.cell (p := ⟨w.heap.size, 0, none⟩) hA).trans c106_b00, (hby.cell (p := ⟨w.heap.size, 1, none⟩) hA).trans c107_b01, (hby.cell (p := ⟨w.heap.size, 2, none⟩) hA).trans c108_b02, (hby.cell (p := ⟨w.heap.size, 3, none⟩) hA).trans c109_b03, (hby.cell (p := ⟨w.heap.size, 4, none⟩) hA).trans c110_b04, (hby.cell (p := ⟨w4.heap.size, 0, none⟩) hX).trans c111_bX00, (hby.cell (p := ⟨w4.heap.size, 1, none⟩) hX).trans c112_bX01, (hby.cell (p := ⟨w4.heap.size, 2, none⟩) hX).trans c113_bX02, (hby.cell (p := ⟨w4.heap.size, 3, none⟩) hX).trans c114_bX03, (hby.cell (p := ⟨w4.heap.size, 4, none⟩) hX).trans c115_bX04⟩ | exact ⟨(hbyz.cell (p := ⟨w.heap.size, 0, none⟩) hA).trans c106_b00, (hbyz.cell (p := ⟨w.heap.size, 1, none⟩) hA).trans c107_b01, (hbyz.cell (p := ⟨w.heap.size, 2, none⟩) hA).trans c108_b02, (hbyz.cell (p := ⟨w.heap.size, 3, none⟩) hA).trans c109_b03, (hbyz.cell (p := ⟨w.heap.size, 4, none⟩) hA).trans c110_b04, (hbyz.cell (p := ⟨w4.heap.size, 0, none⟩) hX).trans c111_bX00, (hbyz.cell (p := ⟨w4.heap.size, 1, none⟩) hX).trans c112_bX01, (hbyz.cell (p := ⟨w4.heap.size, 2, none⟩) hX).trans c113_bX02, (hbyz.cell (p := ⟨w4.heap.size, 3, none⟩) hX).trans c114_bX03, (hbyz.cell (p := ⟨w4.heap.size, 4, none⟩) hX).trans c115_bX04⟩)
    (first | (go_at_call 13; refine TC.out.mono ?_; rintro e wy ⟨uy, rfl, Ly, hby⟩; have Ky := Ly; obtain ⟨typesAy, typesNy, typesCy, flatAy, flatNy, flatCy, memAy, memNy, memCy, rfl⟩ := Plan.lopen Ky; have Lxy := Lx0.step ((Below.refl w8.heap.size w8).drew.trans hby)) | (go_at_call 15; refine (eqPlan_all _ wy.heap.size [.slice typesAx0 typesNx0 typesCx0, .int .i64 from_, .int .i64 to_, .slice flatAx0 flatNx0 flatCx0, .slice memAx0 memNx0 memCx0] [.slice typesAy typesNy typesCy, .int .i64 from_, .int .i64 to_, .slice flatAy flatNy flatCy, .slice memAy memNy memCy] _ (Nat.le_refl _) (by exact Lxy.is) (by exact Ly.is)).mono ?_; rintro e w9 ⟨rfl, hbz⟩; have hbyz : Below w8.heap.size w8 w9 := ((Below.refl _ _).drew.trans hby).trans (hbz.mono hby.size)))
  have hb9 := hbyz
  have hs9 := hb9.size
  have hB9 := hB8.trans (hb9.mono hB8.size)
  replace Lx0 := Lx0.step hb9
  replace Lx1 := Lx1.step hb9
  replace b0 := b0.step hb9
  replace b1 := b1.step hb9
  replace bX0 := bX0.step hb9
  replace bX1 := bX1.step hb9
  clear hbyz hbz hby Lxy Ly TC hA hX
  clear c106_b00 c107_b01 c108_b02 c109_b03 c110_b04 c111_bX00 c112_bX01 c113_bX02 c114_bX03 c115_bX04
  have c116_b00 : w9.cell? ⟨w.heap.size, 0, none⟩ = some (typesV) := b0.cell 0
  have c117_b01 : w9.cell? ⟨w.heap.size, 1, none⟩ = some (.int .i64 from_) := b0.cell 1
  have c118_b02 : w9.cell? ⟨w.heap.size, 2, none⟩ = some (.int .i64 to_) := b0.cell 2
  have c119_b03 : w9.cell? ⟨w.heap.size, 3, none⟩ = some (flatV) := b0.cell 3
  have c120_b04 : w9.cell? ⟨w.heap.size, 4, none⟩ = some (memV) := b0.cell 4
  have c121_b10 : w9.cell? ⟨(w.heap.size + 1), 0, none⟩ = some (ZtypesV) := b1.cell 0
  have c122_b11 : w9.cell? ⟨(w.heap.size + 1), 1, none⟩ = some (.int .i64 Zfrom_) := b1.cell 1
  have c123_b12 : w9.cell? ⟨(w.heap.size + 1), 2, none⟩ = some (.int .i64 Zto_) := b1.cell 2
  have c124_b13 : w9.cell? ⟨(w.heap.size + 1), 3, none⟩ = some (ZflatV) := b1.cell 3
  have c125_b14 : w9.cell? ⟨(w.heap.size + 1), 4, none⟩ = some (ZmemV) := b1.cell 4
  have c126_bX00 : w9.cell? ⟨w4.heap.size, 0, none⟩ = some (.slice typesAx0 typesNx0 typesCx0) := bX0.cell 0
  have c127_bX01 : w9.cell? ⟨w4.heap.size, 1, none⟩ = some (.int .i64 from_) := bX0.cell 1
  have c128_bX02 : w9.cell? ⟨w4.heap.size, 2, none⟩ = some (.int .i64 to_) := bX0.cell 2
  have c129_bX03 : w9.cell? ⟨w4.heap.size, 3, none⟩ = some (.slice flatAx0 flatNx0 flatCx0) := bX0.cell 3
  have c130_bX04 : w9.cell? ⟨w4.heap.size, 4, none⟩ = some (.slice memAx0 memNx0 memCx0) := bX0.cell 4
  have c131_bX10 : w9.cell? ⟨w6.heap.size, 0, none⟩ = some (.slice ZtypesAx1 ZtypesNx1 ZtypesCx1) := bX1.cell 0
  have c132_bX11 : w9.cell? ⟨w6.heap.size, 1, none⟩ = some (.int .i64 Zfrom_) := bX1.cell 1
  have c133_bX12 : w9.cell? ⟨w6.heap.size, 2, none⟩ = some (.int .i64 Zto_) := bX1.cell 2
  have c134_bX13 : w9.cell? ⟨w6.heap.size, 3, none⟩ = some (.slice ZflatAx1 ZflatNx1 ZflatCx1) := bX1.cell 3
  have c135_bX14 : w9.cell? ⟨w6.heap.size, 4, none⟩ = some (.slice ZmemAx1 ZmemNx1 ZmemCx1) := bX1.cell 4
  go_wp2_with fail
  clear c116_b00 c117_b01 c118_b02 c119_b03 c120_b04 c121_b10 c122_b11 c123_b12 c124_b13 c125_b14 c126_bX00 c127_bX01 c128_bX02 c129_bX03 c130_bX04 c131_bX10 c132_bX11 c133_bX12 c134_bX13 c135_bX14
  have c136_b10 : w9.cell? ⟨(w.heap.size + 1), 0, none⟩ = some (ZtypesV) := b1.cell 0
  have c137_b11 : w9.cell? ⟨(w.heap.size + 1), 1, none⟩ = some (.int .i64 Zfrom_) := b1.cell 1
  have c138_b12 : w9.cell? ⟨(w.heap.size + 1), 2, none⟩ = some (.int .i64 Zto_) := b1.cell 2
  have c139_b13 : w9.cell? ⟨(w.heap.size + 1), 3, none⟩ = some (ZflatV) := b1.cell 3
  have c140_b14 : w9.cell? ⟨(w.heap.size + 1), 4, none⟩ = some (ZmemV) := b1.cell 4
  have c141_bX10 : w9.cell? ⟨w6.heap.size, 0, none⟩ = some (.slice ZtypesAx1 ZtypesNx1 ZtypesCx1) := bX1.cell 0
  have c142_bX11 : w9.cell? ⟨w6.heap.size, 1, none⟩ = some (.int .i64 Zfrom_) := bX1.cell 1
  have c143_bX12 : w9.cell? ⟨w6.heap.size, 2, none⟩ = some (.int .i64 Zto_) := bX1.cell 2
  have c144_bX13 : w9.cell? ⟨w6.heap.size, 3, none⟩ = some (.slice ZflatAx1 ZflatNx1 ZflatCx1) := bX1.cell 3
  have c145_bX14 : w9.cell? ⟨w6.heap.size, 4, none⟩ = some (.slice ZmemAx1 ZmemNx1 ZmemCx1) := bX1.cell 4
  have hA := b1.lt
  have hX := bX1.lt
  have TC := Lib.hid (toPlan_all _ w.heap.size [ZtypesV, .int .i64 Zfrom_, .int .i64 Zto_, ZflatV, ZmemV] w9.drew hB9.size (by rw [← Z1.out]; omega) (by exact R1.out.below hB9.drew))
  go_region_held3 (fun w' => w'.cell? ⟨(w.heap.size + 1), 0, none⟩ = some (ZtypesV) ∧ w'.cell? ⟨(w.heap.size + 1), 1, none⟩ = some (.int .i64 Zfrom_) ∧ w'.cell? ⟨(w.heap.size + 1), 2, none⟩ = some (.int .i64 Zto_) ∧ w'.cell? ⟨(w.heap.size + 1), 3, none⟩ = some (ZflatV) ∧ w'.cell? ⟨(w.heap.size + 1), 4, none⟩ = some (ZmemV) ∧ w'.cell? ⟨w6.heap.size, 0, none⟩ = some (.slice ZtypesAx1 ZtypesNx1 ZtypesCx1) ∧ w'.cell? ⟨w6.heap.size, 1, none⟩ = some (.int .i64 Zfrom_) ∧ w'.cell? ⟨w6.heap.size, 2, none⟩ = some (.int .i64 Zto_) ∧ w'.cell? ⟨w6.heap.size, 3, none⟩ = some (.slice ZflatAx1 ZflatNx1 ZflatCx1) ∧ w'.cell? ⟨w6.heap.size, 4, none⟩ = some (.slice ZmemAx1 ZmemNx1 ZmemCx1))
    (first | go_keep | exact ⟨(hby.cell (p := ⟨(w.heap.size + 1), 0, none⟩) hA).trans c136_b10, (hby.cell (p := ⟨(w.heap.size + 1), 1, none⟩) hA).trans c137_b11, (hby.cell (p := ⟨(w.heap.size + 1), 2, none⟩) hA).trans c138_b12, (hby.cell (p := ⟨(w.heap.size + 1), 3, none⟩) hA).trans c139_b13, (hby.cell (p := ⟨(w.heap.size + 1), 4, none⟩) hA).trans c140_b14, (hby.cell (p := ⟨w6.heap.size, 0, none⟩) hX).trans c141_bX10, (hby.cell (p := ⟨w6.heap.size, 1, none⟩) hX).trans c142_bX11, (hby.cell (p := ⟨w6.heap.size, 2, none⟩) hX).trans c143_bX12, (hby.cell (p := ⟨w6.heap.size, 3, none⟩) hX).trans c144_bX13, (hby.cell (p := ⟨w6.heap.size, 4, none⟩) hX).trans c145_bX14⟩ | exact ⟨(hbyz.cell (p := ⟨(w.heap.size + 1), 0, none⟩) hA).trans c136_b10, (hbyz.cell (p := ⟨(w.heap.size + 1), 1, none⟩) hA).trans c137_b11, (hbyz.cell (p := ⟨(w.heap.size + 1), 2, none⟩) hA).trans c138_b12, (hbyz.cell (p := ⟨(w.heap.size + 1), 3, none⟩) hA).trans c139_b13, (hbyz.cell (p := ⟨(w.heap.size + 1), 4, none⟩) hA).trans c140_b14, (hbyz.cell (p := ⟨w6.heap.size, 0, none⟩) hX).trans c141_bX10, (hbyz.cell (p := ⟨w6.heap.size, 1, none⟩) hX).trans c142_bX11, (hbyz.cell (p := ⟨w6.heap.size, 2, none⟩) hX).trans c143_bX12, (hbyz.cell (p := ⟨w6.heap.size, 3, none⟩) hX).trans c144_bX13, (hbyz.cell (p := ⟨w6.heap.size, 4, none⟩) hX).trans c145_bX14⟩)
    (first | (go_at_call 13; refine TC.out.mono ?_; rintro e wy ⟨uy, rfl, Ly, hby⟩; have Ky := Ly; obtain ⟨ZtypesAy, ZtypesNy, ZtypesCy, ZflatAy, ZflatNy, ZflatCy, ZmemAy, ZmemNy, ZmemCy, rfl⟩ := Plan.lopen Ky; have Lxy := Lx1.step ((Below.refl w9.heap.size w9).drew.trans hby)) | (go_at_call 15; refine (eqPlan_all _ wy.heap.size [.slice ZtypesAx1 ZtypesNx1 ZtypesCx1, .int .i64 Zfrom_, .int .i64 Zto_, .slice ZflatAx1 ZflatNx1 ZflatCx1, .slice ZmemAx1 ZmemNx1 ZmemCx1] [.slice ZtypesAy ZtypesNy ZtypesCy, .int .i64 Zfrom_, .int .i64 Zto_, .slice ZflatAy ZflatNy ZflatCy, .slice ZmemAy ZmemNy ZmemCy] _ (Nat.le_refl _) (by exact Lxy.is) (by exact Ly.is)).mono ?_; rintro e w10 ⟨rfl, hbz⟩; have hbyz : Below w9.heap.size w9 w10 := ((Below.refl _ _).drew.trans hby).trans (hbz.mono hby.size)))
  have hb10 := hbyz
  have hs10 := hb10.size
  have hB10 := hB9.trans (hb10.mono hB9.size)
  replace Lx0 := Lx0.step hb10
  replace Lx1 := Lx1.step hb10
  replace b0 := b0.step hb10
  replace b1 := b1.step hb10
  replace bX0 := bX0.step hb10
  replace bX1 := bX1.step hb10
  clear hbyz hbz hby Lxy Ly TC hA hX
  clear c136_b10 c137_b11 c138_b12 c139_b13 c140_b14 c141_bX10 c142_bX11 c143_bX12 c144_bX13 c145_bX14
  go_wp2_with fail
  go_ret
  exact ⟨rfl, hB10⟩

end Go.Proofs.Ytnedcpoengcbaaa
