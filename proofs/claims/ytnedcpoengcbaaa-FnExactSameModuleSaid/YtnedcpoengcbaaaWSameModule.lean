/-
  FnExactSameModule: the law's walk (by program: lawgen2.py).
-/
import Derived.Test.YtnedcpoengcbaaaArg
import Derived.Test.YtnedcpoengcbaaaSz
import Derived.Test.YtnedcpoengcbaaaTo
import Derived.Test.YtnedcpoengcbaaaEq
import Derived.Test.YtnedcpoengcbaaaSameMod
namespace Go.Proofs.Ytnedcpoengcbaaa
open Go.RowKit
set_option linter.unusedVariables false
set_option linter.unusedSimpArgs false
set_option linter.unnecessarySimpa false
set_option maxRecDepth 100000

set_option maxHeartbeats 6400000 in
theorem walk_FnExactSameModule (w : World) (v0 : Value) (h0 : ArgModule w v0) (v1 : Value) (h1 : ArgModule w v1) :
    Calls Try.prog 3 #[v0, v1] w fun e w' => e = .returned (.bool true) ∧ Below w.heap.size w w' := by
  obtain ⟨t, cs, rfl, hwf, hr⟩ := h0
  obtain ⟨pages, imports, cores⟩ := t
  obtain ⟨importsV, coresV, rfl, _, _⟩ := Mod.open_ hr
  have WF0 := Lib.hid hwf
  have R0 := Lib.hid hr
  clear hwf hr
  obtain ⟨z0, hz⟩ : ∃ z : Nat, z = PD.szL (Mod.pd ⟨pages, imports, cores⟩) := ⟨_, rfl⟩
  have Z0 := Lib.hid hz
  clear hz
  obtain ⟨t, cs, rfl, hwf, hr⟩ := h1
  obtain ⟨Zpages, Zimports, Zcores⟩ := t
  obtain ⟨ZimportsV, ZcoresV, rfl, _, _⟩ := Mod.open_ hr
  have WF1 := Lib.hid hwf
  have R1 := Lib.hid hr
  clear hwf hr
  obtain ⟨z1, hz⟩ : ∃ z : Nat, z = PD.szL (Mod.pd ⟨Zpages, Zimports, Zcores⟩) := ⟨_, rfl⟩
  have Z1 := Lib.hid hz
  clear hz
  by_cases ht0 : z0 ≤ 1048576
  case neg =>
    go_enter Try.func3, Try.ntmps3
    go_wp2_with fail
    obtain ⟨w0, hw0⟩ : ∃ W, W = ((w.alloc (.cells #[.int .i64 pages, importsV, coresV] 25)).alloc (.cells #[.int .i64 Zpages, ZimportsV, ZcoresV] 25)) := ⟨_, rfl⟩
    rw [← hw0]
    have hB0 : Below w.heap.size w w0 := by rw [hw0]; exact ((Below.refl _ _).alloc (Nat.le_refl _) _).alloc (by simp) _
    have b0 : Blk w0 w.heap.size 25 #[.int .i64 pages, importsV, coresV] := by rw [hw0]; exact ((Blk.new w _ _).alloc _)
    have b1 : Blk w0 (w.heap.size + 1) 25 #[.int .i64 Zpages, ZimportsV, ZcoresV] := by rw [hw0]; exact by simpa using (Blk.new (w.alloc (.cells #[.int .i64 pages, importsV, coresV] 25)) _ _)
    clear hw0
    have hs0 := hB0.size
    refine (szModule_all _ w.heap.size [.int .i64 pages, importsV, coresV] _ (1048576) (by omega) (by omega) hB0.size WF0.out (R0.out.below hB0)).mono ?_
    rintro e w1 ⟨rfl, hb1⟩
    have hs1 := hb1.size
    have hB1 := hB0.trans (hb1.mono hB0.size)
    replace b0 := b0.step hb1
    replace b1 := b1.step hb1
    rw [← Z0.out, szLeft_no (by omega)]
    go_wp2_with fail
    go_ret
    exact ⟨rfl, hB1⟩
  by_cases ht1 : z0 + z1 ≤ 1048576
  case neg =>
    go_enter Try.func3, Try.ntmps3
    go_wp2_with fail
    obtain ⟨w0, hw0⟩ : ∃ W, W = ((w.alloc (.cells #[.int .i64 pages, importsV, coresV] 25)).alloc (.cells #[.int .i64 Zpages, ZimportsV, ZcoresV] 25)) := ⟨_, rfl⟩
    rw [← hw0]
    have hB0 : Below w.heap.size w w0 := by rw [hw0]; exact ((Below.refl _ _).alloc (Nat.le_refl _) _).alloc (by simp) _
    have b0 : Blk w0 w.heap.size 25 #[.int .i64 pages, importsV, coresV] := by rw [hw0]; exact ((Blk.new w _ _).alloc _)
    have b1 : Blk w0 (w.heap.size + 1) 25 #[.int .i64 Zpages, ZimportsV, ZcoresV] := by rw [hw0]; exact by simpa using (Blk.new (w.alloc (.cells #[.int .i64 pages, importsV, coresV] 25)) _ _)
    clear hw0
    have hs0 := hB0.size
    refine (szModule_all _ w.heap.size [.int .i64 pages, importsV, coresV] _ (1048576) (by omega) (by omega) hB0.size WF0.out (R0.out.below hB0)).mono ?_
    rintro e w1 ⟨rfl, hb1⟩
    have hs1 := hb1.size
    have hB1 := hB0.trans (hb1.mono hB0.size)
    replace b0 := b0.step hb1
    replace b1 := b1.step hb1
    rw [← Z0.out, szLeft_yes (by omega)]
    have hp0 : (0 : Int) ≤ 1048576 - (z0 : Int) := by omega
    have c1_b00 : w1.cell? ⟨w.heap.size, 0, none⟩ = some (.int .i64 pages) := b0.cell 0
    have c2_b01 : w1.cell? ⟨w.heap.size, 1, none⟩ = some (importsV) := b0.cell 1
    have c3_b02 : w1.cell? ⟨w.heap.size, 2, none⟩ = some (coresV) := b0.cell 2
    have c4_b10 : w1.cell? ⟨(w.heap.size + 1), 0, none⟩ = some (.int .i64 Zpages) := b1.cell 0
    have c5_b11 : w1.cell? ⟨(w.heap.size + 1), 1, none⟩ = some (ZimportsV) := b1.cell 1
    have c6_b12 : w1.cell? ⟨(w.heap.size + 1), 2, none⟩ = some (ZcoresV) := b1.cell 2
    go_wp2_with fail
    clear c1_b00 c2_b01 c3_b02 c4_b10 c5_b11 c6_b12
    refine (szModule_all _ w.heap.size [.int .i64 Zpages, ZimportsV, ZcoresV] _ (1048576 - (z0 : Int)) (by omega) (by omega) hB1.size WF1.out (R1.out.below hB1)).mono ?_
    rintro e w2 ⟨rfl, hb2⟩
    have hs2 := hb2.size
    have hB2 := hB1.trans (hb2.mono hB1.size)
    replace b0 := b0.step hb2
    replace b1 := b1.step hb2
    rw [← Z1.out, szLeft_no (by omega)]
    go_wp2_with fail
    go_ret
    exact ⟨rfl, hB2⟩
  have SP := specSameModule_ok (⟨pages, imports, cores⟩ : Mod) (⟨Zpages, Zimports, Zcores⟩ : Mod) WF0.out (by rw [← Z0.out]; omega) WF1.out (by rw [← Z1.out]; omega)
  have IM := implSameModule_ok (⟨pages, imports, cores⟩ : Mod) (⟨Zpages, Zimports, Zcores⟩ : Mod) WF0.out (by rw [← Z0.out]; omega) WF1.out (by rw [← Z1.out]; omega)
  obtain ⟨r0, hrr⟩ : ∃ r : Bool, r = modEq ⟨pages, imports, cores⟩ ⟨Zpages, Zimports, Zcores⟩ := ⟨_, rfl⟩
  rw [← hrr] at SP IM
  clear hrr
  have hne0 : (r0 != r0) = false := by simp
  have SP' := Lib.hid SP
  have IM' := Lib.hid IM
  clear SP IM
  go_enter Try.func3, Try.ntmps3
  go_wp2_with fail
  obtain ⟨w0, hw0⟩ : ∃ W, W = ((w.alloc (.cells #[.int .i64 pages, importsV, coresV] 25)).alloc (.cells #[.int .i64 Zpages, ZimportsV, ZcoresV] 25)) := ⟨_, rfl⟩
  rw [← hw0]
  have hB0 : Below w.heap.size w w0 := by rw [hw0]; exact ((Below.refl _ _).alloc (Nat.le_refl _) _).alloc (by simp) _
  have b0 : Blk w0 w.heap.size 25 #[.int .i64 pages, importsV, coresV] := by rw [hw0]; exact ((Blk.new w _ _).alloc _)
  have b1 : Blk w0 (w.heap.size + 1) 25 #[.int .i64 Zpages, ZimportsV, ZcoresV] := by rw [hw0]; exact by simpa using (Blk.new (w.alloc (.cells #[.int .i64 pages, importsV, coresV] 25)) _ _)
  clear hw0
  have hs0 := hB0.size
  refine (szModule_all _ w.heap.size [.int .i64 pages, importsV, coresV] _ (1048576) (by omega) (by omega) hB0.size WF0.out (R0.out.below hB0)).mono ?_
  rintro e w1 ⟨rfl, hb1⟩
  have hs1 := hb1.size
  have hB1 := hB0.trans (hb1.mono hB0.size)
  replace b0 := b0.step hb1
  replace b1 := b1.step hb1
  rw [← Z0.out, szLeft_yes (by omega)]
  have hp0 : (0 : Int) ≤ 1048576 - (z0 : Int) := by omega
  have c7_b00 : w1.cell? ⟨w.heap.size, 0, none⟩ = some (.int .i64 pages) := b0.cell 0
  have c8_b01 : w1.cell? ⟨w.heap.size, 1, none⟩ = some (importsV) := b0.cell 1
  have c9_b02 : w1.cell? ⟨w.heap.size, 2, none⟩ = some (coresV) := b0.cell 2
  have c10_b10 : w1.cell? ⟨(w.heap.size + 1), 0, none⟩ = some (.int .i64 Zpages) := b1.cell 0
  have c11_b11 : w1.cell? ⟨(w.heap.size + 1), 1, none⟩ = some (ZimportsV) := b1.cell 1
  have c12_b12 : w1.cell? ⟨(w.heap.size + 1), 2, none⟩ = some (ZcoresV) := b1.cell 2
  go_wp2_with fail
  clear c7_b00 c8_b01 c9_b02 c10_b10 c11_b11 c12_b12
  refine (szModule_all _ w.heap.size [.int .i64 Zpages, ZimportsV, ZcoresV] _ (1048576 - (z0 : Int)) (by omega) (by omega) hB1.size WF1.out (R1.out.below hB1)).mono ?_
  rintro e w2 ⟨rfl, hb2⟩
  have hs2 := hb2.size
  have hB2 := hB1.trans (hb2.mono hB1.size)
  replace b0 := b0.step hb2
  replace b1 := b1.step hb2
  rw [← Z1.out, szLeft_yes (by omega)]
  have hp1 : (0 : Int) ≤ 1048576 - (z0 : Int) - (z1 : Int) := by omega
  have c13_b00 : w2.cell? ⟨w.heap.size, 0, none⟩ = some (.int .i64 pages) := b0.cell 0
  have c14_b01 : w2.cell? ⟨w.heap.size, 1, none⟩ = some (importsV) := b0.cell 1
  have c15_b02 : w2.cell? ⟨w.heap.size, 2, none⟩ = some (coresV) := b0.cell 2
  have c16_b10 : w2.cell? ⟨(w.heap.size + 1), 0, none⟩ = some (.int .i64 Zpages) := b1.cell 0
  have c17_b11 : w2.cell? ⟨(w.heap.size + 1), 1, none⟩ = some (ZimportsV) := b1.cell 1
  have c18_b12 : w2.cell? ⟨(w.heap.size + 1), 2, none⟩ = some (ZcoresV) := b1.cell 2
  go_wp2_with fail
  clear c13_b00 c14_b01 c15_b02 c16_b10 c17_b11 c18_b12
  have c19_b00 : w2.cell? ⟨w.heap.size, 0, none⟩ = some (.int .i64 pages) := b0.cell 0
  have c20_b01 : w2.cell? ⟨w.heap.size, 1, none⟩ = some (importsV) := b0.cell 1
  have c21_b02 : w2.cell? ⟨w.heap.size, 2, none⟩ = some (coresV) := b0.cell 2
  have c22_b10 : w2.cell? ⟨(w.heap.size + 1), 0, none⟩ = some (.int .i64 Zpages) := b1.cell 0
  have c23_b11 : w2.cell? ⟨(w.heap.size + 1), 1, none⟩ = some (ZimportsV) := b1.cell 1
  have c24_b12 : w2.cell? ⟨(w.heap.size + 1), 2, none⟩ = some (ZcoresV) := b1.cell 2
  have lt_b0 := b0.lt
  have lt_b1 := b1.lt
  go_region_held3 (fun w' => w'.cell? ⟨w.heap.size, 0, none⟩ = some (.int .i64 pages) ∧ w'.cell? ⟨w.heap.size, 1, none⟩ = some (importsV) ∧ w'.cell? ⟨w.heap.size, 2, none⟩ = some (coresV) ∧ w'.cell? ⟨(w.heap.size + 1), 0, none⟩ = some (.int .i64 Zpages) ∧ w'.cell? ⟨(w.heap.size + 1), 1, none⟩ = some (ZimportsV) ∧ w'.cell? ⟨(w.heap.size + 1), 2, none⟩ = some (ZcoresV))
    (first | go_keep | exact ⟨(hq0.cell (p := ⟨w.heap.size, 0, none⟩) lt_b0).trans c19_b00, (hq0.cell (p := ⟨w.heap.size, 1, none⟩) lt_b0).trans c20_b01, (hq0.cell (p := ⟨w.heap.size, 2, none⟩) lt_b0).trans c21_b02, (hq0.cell (p := ⟨(w.heap.size + 1), 0, none⟩) lt_b1).trans c22_b10, (hq0.cell (p := ⟨(w.heap.size + 1), 1, none⟩) lt_b1).trans c23_b11, (hq0.cell (p := ⟨(w.heap.size + 1), 2, none⟩) lt_b1).trans c24_b12⟩ | exact ⟨(hq1.cell (p := ⟨w.heap.size, 0, none⟩) lt_b0).trans c19_b00, (hq1.cell (p := ⟨w.heap.size, 1, none⟩) lt_b0).trans c20_b01, (hq1.cell (p := ⟨w.heap.size, 2, none⟩) lt_b0).trans c21_b02, (hq1.cell (p := ⟨(w.heap.size + 1), 0, none⟩) lt_b1).trans c22_b10, (hq1.cell (p := ⟨(w.heap.size + 1), 1, none⟩) lt_b1).trans c23_b11, (hq1.cell (p := ⟨(w.heap.size + 1), 2, none⟩) lt_b1).trans c24_b12⟩ | exact ⟨(hqZ.cell (p := ⟨w.heap.size, 0, none⟩) lt_b0).trans c19_b00, (hqZ.cell (p := ⟨w.heap.size, 1, none⟩) lt_b0).trans c20_b01, (hqZ.cell (p := ⟨w.heap.size, 2, none⟩) lt_b0).trans c21_b02, (hqZ.cell (p := ⟨(w.heap.size + 1), 0, none⟩) lt_b1).trans c22_b10, (hqZ.cell (p := ⟨(w.heap.size + 1), 1, none⟩) lt_b1).trans c23_b11, (hqZ.cell (p := ⟨(w.heap.size + 1), 2, none⟩) lt_b1).trans c24_b12⟩)
    (first | (go_at_call_of 8 importsV; refine (toModule_all _ w.heap.size [.int .i64 pages, importsV, coresV] _ (by exact hB2.drew.size) (by rw [← Z0.out]; omega) (by exact R0.out.below hB2.drew)).mono ?_; rintro e wq0 ⟨us0, rfl, Ls0, hbq⟩; have Ks0 := Ls0; obtain ⟨importsAs0, importsNs0, importsCs0, coresAs0, coresNs0, coresCs0, rfl⟩ := Mod.lopen Ks0; have hq0 : Below w2.heap.size w2 wq0 := (Below.refl _ _).drew.trans hbq; have hBq0 := hB2.trans (hq0.mono hB2.size)) | (go_at_call_of 8 ZimportsV; refine (toModule_all _ w.heap.size [.int .i64 Zpages, ZimportsV, ZcoresV] _ (by exact hBq0.size) (by rw [← Z1.out]; omega) (by exact R1.out.below hBq0)).mono ?_; rintro e wq1 ⟨us1, rfl, Ls1, hbq⟩; have Ks1 := Ls1; obtain ⟨ZimportsAs1, ZimportsNs1, ZimportsCs1, ZcoresAs1, ZcoresNs1, ZcoresCs1, rfl⟩ := Mod.lopen Ks1; have hq1 : Below w2.heap.size w2 wq1 := hq0.trans (hbq.mono hq0.size); have hBq1 := hB2.trans (hq1.mono hB2.size); replace Ls0 := Ls0.step hbq) | (go_at_call 7; refine (SP'.out wq1.heap.size [.int .i64 pages, .slice importsAs0 importsNs0 importsCs0, .slice coresAs0 coresNs0 coresCs0] [.int .i64 Zpages, .slice ZimportsAs1 ZimportsNs1 ZimportsCs1, .slice ZcoresAs1 ZcoresNs1 ZcoresCs1] _ (Nat.le_refl _) (by exact Ls0.is) (by exact Ls1.is)).mono ?_; rintro e w3 ⟨rfl, hbq⟩; have hqZ := hq1.trans (hbq.mono hq1.size)))
  have hb3 := hqZ
  have hs3 := hb3.size
  have hB3 := hB2.trans (hb3.mono hB2.size)
  replace b0 := b0.step hb3
  replace b1 := b1.step hb3
  clear hqZ hbq Ls0 Ls1 hq0 hBq0 hq1 hBq1
  clear lt_b0 lt_b1
  clear c19_b00 c20_b01 c21_b02 c22_b10 c23_b11 c24_b12
  have c25_b00 : w3.cell? ⟨w.heap.size, 0, none⟩ = some (.int .i64 pages) := b0.cell 0
  have c26_b01 : w3.cell? ⟨w.heap.size, 1, none⟩ = some (importsV) := b0.cell 1
  have c27_b02 : w3.cell? ⟨w.heap.size, 2, none⟩ = some (coresV) := b0.cell 2
  have c28_b10 : w3.cell? ⟨(w.heap.size + 1), 0, none⟩ = some (.int .i64 Zpages) := b1.cell 0
  have c29_b11 : w3.cell? ⟨(w.heap.size + 1), 1, none⟩ = some (ZimportsV) := b1.cell 1
  have c30_b12 : w3.cell? ⟨(w.heap.size + 1), 2, none⟩ = some (ZcoresV) := b1.cell 2
  go_wp2_with fail
  clear c25_b00 c26_b01 c27_b02 c28_b10 c29_b11 c30_b12
  refine (toModule_all _ w.heap.size [.int .i64 pages, importsV, coresV] _ hB3.size (by rw [← Z0.out]; omega) (R0.out.below hB3)).mono ?_
  rintro e w4 ⟨ux0, rfl, Lx0, hb4⟩
  have hs4 := hb4.size
  have hB4 := hB3.trans (hb4.mono hB3.size)
  replace b0 := b0.step hb4
  replace b1 := b1.step hb4
  have Kx0 := Lx0
  obtain ⟨importsAx0, importsNx0, importsCx0, coresAx0, coresNx0, coresCx0, rfl⟩ := Mod.lopen Kx0
  clear Kx0
  obtain ⟨w5, hw5⟩ : ∃ W, W = (w4.alloc (.cells #[.int .i64 pages, .slice importsAx0 importsNx0 importsCx0, .slice coresAx0 coresNx0 coresCx0] 31)) := ⟨_, rfl⟩
  have hb5 : Below w4.heap.size w4 w5 := by rw [hw5]; exact (Below.refl _ _).alloc (Nat.le_refl _) _
  have bX0 : Blk w5 w4.heap.size 31 #[.int .i64 pages, .slice importsAx0 importsNx0 importsCx0, .slice coresAx0 coresNx0 coresCx0] := by rw [hw5]; exact Blk.new w4 _ _
  have HW5 := Lib.hid hw5
  clear hw5
  have hs5 := hb5.size
  have hB5 := hB4.trans (hb5.mono hB4.size)
  replace Lx0 := Lx0.step hb5
  replace b0 := b0.step hb5
  replace b1 := b1.step hb5
  have c31_b00 : (w4.alloc (.cells #[.int .i64 pages, .slice importsAx0 importsNx0 importsCx0, .slice coresAx0 coresNx0 coresCx0] 31)).cell? ⟨w.heap.size, 0, none⟩ = some (.int .i64 pages) := by rw [← HW5.out]; exact b0.cell 0
  have c32_b01 : (w4.alloc (.cells #[.int .i64 pages, .slice importsAx0 importsNx0 importsCx0, .slice coresAx0 coresNx0 coresCx0] 31)).cell? ⟨w.heap.size, 1, none⟩ = some (importsV) := by rw [← HW5.out]; exact b0.cell 1
  have c33_b02 : (w4.alloc (.cells #[.int .i64 pages, .slice importsAx0 importsNx0 importsCx0, .slice coresAx0 coresNx0 coresCx0] 31)).cell? ⟨w.heap.size, 2, none⟩ = some (coresV) := by rw [← HW5.out]; exact b0.cell 2
  have c34_b10 : (w4.alloc (.cells #[.int .i64 pages, .slice importsAx0 importsNx0 importsCx0, .slice coresAx0 coresNx0 coresCx0] 31)).cell? ⟨(w.heap.size + 1), 0, none⟩ = some (.int .i64 Zpages) := by rw [← HW5.out]; exact b1.cell 0
  have c35_b11 : (w4.alloc (.cells #[.int .i64 pages, .slice importsAx0 importsNx0 importsCx0, .slice coresAx0 coresNx0 coresCx0] 31)).cell? ⟨(w.heap.size + 1), 1, none⟩ = some (ZimportsV) := by rw [← HW5.out]; exact b1.cell 1
  have c36_b12 : (w4.alloc (.cells #[.int .i64 pages, .slice importsAx0 importsNx0 importsCx0, .slice coresAx0 coresNx0 coresCx0] 31)).cell? ⟨(w.heap.size + 1), 2, none⟩ = some (ZcoresV) := by rw [← HW5.out]; exact b1.cell 2
  have c37_bX00 : (w4.alloc (.cells #[.int .i64 pages, .slice importsAx0 importsNx0 importsCx0, .slice coresAx0 coresNx0 coresCx0] 31)).cell? ⟨w4.heap.size, 0, none⟩ = some (.int .i64 pages) := by rw [← HW5.out]; exact bX0.cell 0
  have c38_bX01 : (w4.alloc (.cells #[.int .i64 pages, .slice importsAx0 importsNx0 importsCx0, .slice coresAx0 coresNx0 coresCx0] 31)).cell? ⟨w4.heap.size, 1, none⟩ = some (.slice importsAx0 importsNx0 importsCx0) := by rw [← HW5.out]; exact bX0.cell 1
  have c39_bX02 : (w4.alloc (.cells #[.int .i64 pages, .slice importsAx0 importsNx0 importsCx0, .slice coresAx0 coresNx0 coresCx0] 31)).cell? ⟨w4.heap.size, 2, none⟩ = some (.slice coresAx0 coresNx0 coresCx0) := by rw [← HW5.out]; exact bX0.cell 2
  go_wp2_with fail
  rw [← HW5.out]
  clear c31_b00 c32_b01 c33_b02 c34_b10 c35_b11 c36_b12 c37_bX00 c38_bX01 c39_bX02
  clear HW5
  refine (toModule_all _ w.heap.size [.int .i64 Zpages, ZimportsV, ZcoresV] _ hB5.size (by rw [← Z1.out]; omega) (R1.out.below hB5)).mono ?_
  rintro e w6 ⟨ux1, rfl, Lx1, hb6⟩
  have hs6 := hb6.size
  have hB6 := hB5.trans (hb6.mono hB5.size)
  replace Lx0 := Lx0.step hb6
  replace b0 := b0.step hb6
  replace b1 := b1.step hb6
  replace bX0 := bX0.step hb6
  have Kx1 := Lx1
  obtain ⟨ZimportsAx1, ZimportsNx1, ZimportsCx1, ZcoresAx1, ZcoresNx1, ZcoresCx1, rfl⟩ := Mod.lopen Kx1
  clear Kx1
  obtain ⟨w7, hw7⟩ : ∃ W, W = (w6.alloc (.cells #[.int .i64 Zpages, .slice ZimportsAx1 ZimportsNx1 ZimportsCx1, .slice ZcoresAx1 ZcoresNx1 ZcoresCx1] 31)) := ⟨_, rfl⟩
  have hb7 : Below w6.heap.size w6 w7 := by rw [hw7]; exact (Below.refl _ _).alloc (Nat.le_refl _) _
  have bX1 : Blk w7 w6.heap.size 31 #[.int .i64 Zpages, .slice ZimportsAx1 ZimportsNx1 ZimportsCx1, .slice ZcoresAx1 ZcoresNx1 ZcoresCx1] := by rw [hw7]; exact Blk.new w6 _ _
  have HW7 := Lib.hid hw7
  clear hw7
  have hs7 := hb7.size
  have hB7 := hB6.trans (hb7.mono hB6.size)
  replace Lx0 := Lx0.step hb7
  replace Lx1 := Lx1.step hb7
  replace b0 := b0.step hb7
  replace b1 := b1.step hb7
  replace bX0 := bX0.step hb7
  have c40_b00 : (w6.alloc (.cells #[.int .i64 Zpages, .slice ZimportsAx1 ZimportsNx1 ZimportsCx1, .slice ZcoresAx1 ZcoresNx1 ZcoresCx1] 31)).cell? ⟨w.heap.size, 0, none⟩ = some (.int .i64 pages) := by rw [← HW7.out]; exact b0.cell 0
  have c41_b01 : (w6.alloc (.cells #[.int .i64 Zpages, .slice ZimportsAx1 ZimportsNx1 ZimportsCx1, .slice ZcoresAx1 ZcoresNx1 ZcoresCx1] 31)).cell? ⟨w.heap.size, 1, none⟩ = some (importsV) := by rw [← HW7.out]; exact b0.cell 1
  have c42_b02 : (w6.alloc (.cells #[.int .i64 Zpages, .slice ZimportsAx1 ZimportsNx1 ZimportsCx1, .slice ZcoresAx1 ZcoresNx1 ZcoresCx1] 31)).cell? ⟨w.heap.size, 2, none⟩ = some (coresV) := by rw [← HW7.out]; exact b0.cell 2
  have c43_b10 : (w6.alloc (.cells #[.int .i64 Zpages, .slice ZimportsAx1 ZimportsNx1 ZimportsCx1, .slice ZcoresAx1 ZcoresNx1 ZcoresCx1] 31)).cell? ⟨(w.heap.size + 1), 0, none⟩ = some (.int .i64 Zpages) := by rw [← HW7.out]; exact b1.cell 0
  have c44_b11 : (w6.alloc (.cells #[.int .i64 Zpages, .slice ZimportsAx1 ZimportsNx1 ZimportsCx1, .slice ZcoresAx1 ZcoresNx1 ZcoresCx1] 31)).cell? ⟨(w.heap.size + 1), 1, none⟩ = some (ZimportsV) := by rw [← HW7.out]; exact b1.cell 1
  have c45_b12 : (w6.alloc (.cells #[.int .i64 Zpages, .slice ZimportsAx1 ZimportsNx1 ZimportsCx1, .slice ZcoresAx1 ZcoresNx1 ZcoresCx1] 31)).cell? ⟨(w.heap.size + 1), 2, none⟩ = some (ZcoresV) := by rw [← HW7.out]; exact b1.cell 2
  have c46_bX00 : (w6.alloc (.cells #[.int .i64 Zpages, .slice ZimportsAx1 ZimportsNx1 ZimportsCx1, .slice ZcoresAx1 ZcoresNx1 ZcoresCx1] 31)).cell? ⟨w4.heap.size, 0, none⟩ = some (.int .i64 pages) := by rw [← HW7.out]; exact bX0.cell 0
  have c47_bX01 : (w6.alloc (.cells #[.int .i64 Zpages, .slice ZimportsAx1 ZimportsNx1 ZimportsCx1, .slice ZcoresAx1 ZcoresNx1 ZcoresCx1] 31)).cell? ⟨w4.heap.size, 1, none⟩ = some (.slice importsAx0 importsNx0 importsCx0) := by rw [← HW7.out]; exact bX0.cell 1
  have c48_bX02 : (w6.alloc (.cells #[.int .i64 Zpages, .slice ZimportsAx1 ZimportsNx1 ZimportsCx1, .slice ZcoresAx1 ZcoresNx1 ZcoresCx1] 31)).cell? ⟨w4.heap.size, 2, none⟩ = some (.slice coresAx0 coresNx0 coresCx0) := by rw [← HW7.out]; exact bX0.cell 2
  have c49_bX10 : (w6.alloc (.cells #[.int .i64 Zpages, .slice ZimportsAx1 ZimportsNx1 ZimportsCx1, .slice ZcoresAx1 ZcoresNx1 ZcoresCx1] 31)).cell? ⟨w6.heap.size, 0, none⟩ = some (.int .i64 Zpages) := by rw [← HW7.out]; exact bX1.cell 0
  have c50_bX11 : (w6.alloc (.cells #[.int .i64 Zpages, .slice ZimportsAx1 ZimportsNx1 ZimportsCx1, .slice ZcoresAx1 ZcoresNx1 ZcoresCx1] 31)).cell? ⟨w6.heap.size, 1, none⟩ = some (.slice ZimportsAx1 ZimportsNx1 ZimportsCx1) := by rw [← HW7.out]; exact bX1.cell 1
  have c51_bX12 : (w6.alloc (.cells #[.int .i64 Zpages, .slice ZimportsAx1 ZimportsNx1 ZimportsCx1, .slice ZcoresAx1 ZcoresNx1 ZcoresCx1] 31)).cell? ⟨w6.heap.size, 2, none⟩ = some (.slice ZcoresAx1 ZcoresNx1 ZcoresCx1) := by rw [← HW7.out]; exact bX1.cell 2
  go_wp2_with fail
  rw [← HW7.out]
  clear c40_b00 c41_b01 c42_b02 c43_b10 c44_b11 c45_b12 c46_bX00 c47_bX01 c48_bX02 c49_bX10 c50_bX11 c51_bX12
  clear HW7
  refine (IM'.out w7.heap.size [.int .i64 pages, .slice importsAx0 importsNx0 importsCx0, .slice coresAx0 coresNx0 coresCx0] [.int .i64 Zpages, .slice ZimportsAx1 ZimportsNx1 ZimportsCx1, .slice ZcoresAx1 ZcoresNx1 ZcoresCx1] _ (Nat.le_refl _) Lx0.is Lx1.is).mono ?_
  rintro e w8 ⟨rfl, hb8⟩
  have hs8 := hb8.size
  have hB8 := hB7.trans (hb8.mono hB7.size)
  replace Lx0 := Lx0.step hb8
  replace Lx1 := Lx1.step hb8
  replace b0 := b0.step hb8
  replace b1 := b1.step hb8
  replace bX0 := bX0.step hb8
  replace bX1 := bX1.step hb8
  have c52_b00 : w8.cell? ⟨w.heap.size, 0, none⟩ = some (.int .i64 pages) := b0.cell 0
  have c53_b01 : w8.cell? ⟨w.heap.size, 1, none⟩ = some (importsV) := b0.cell 1
  have c54_b02 : w8.cell? ⟨w.heap.size, 2, none⟩ = some (coresV) := b0.cell 2
  have c55_b10 : w8.cell? ⟨(w.heap.size + 1), 0, none⟩ = some (.int .i64 Zpages) := b1.cell 0
  have c56_b11 : w8.cell? ⟨(w.heap.size + 1), 1, none⟩ = some (ZimportsV) := b1.cell 1
  have c57_b12 : w8.cell? ⟨(w.heap.size + 1), 2, none⟩ = some (ZcoresV) := b1.cell 2
  have c58_bX00 : w8.cell? ⟨w4.heap.size, 0, none⟩ = some (.int .i64 pages) := bX0.cell 0
  have c59_bX01 : w8.cell? ⟨w4.heap.size, 1, none⟩ = some (.slice importsAx0 importsNx0 importsCx0) := bX0.cell 1
  have c60_bX02 : w8.cell? ⟨w4.heap.size, 2, none⟩ = some (.slice coresAx0 coresNx0 coresCx0) := bX0.cell 2
  have c61_bX10 : w8.cell? ⟨w6.heap.size, 0, none⟩ = some (.int .i64 Zpages) := bX1.cell 0
  have c62_bX11 : w8.cell? ⟨w6.heap.size, 1, none⟩ = some (.slice ZimportsAx1 ZimportsNx1 ZimportsCx1) := bX1.cell 1
  have c63_bX12 : w8.cell? ⟨w6.heap.size, 2, none⟩ = some (.slice ZcoresAx1 ZcoresNx1 ZcoresCx1) := bX1.cell 2
  go_wp2_with fail
  clear c52_b00 c53_b01 c54_b02 c55_b10 c56_b11 c57_b12 c58_bX00 c59_bX01 c60_bX02 c61_bX10 c62_bX11 c63_bX12
  have c64_b00 : w8.cell? ⟨w.heap.size, 0, none⟩ = some (.int .i64 pages) := b0.cell 0
  have c65_b01 : w8.cell? ⟨w.heap.size, 1, none⟩ = some (importsV) := b0.cell 1
  have c66_b02 : w8.cell? ⟨w.heap.size, 2, none⟩ = some (coresV) := b0.cell 2
  have c67_bX00 : w8.cell? ⟨w4.heap.size, 0, none⟩ = some (.int .i64 pages) := bX0.cell 0
  have c68_bX01 : w8.cell? ⟨w4.heap.size, 1, none⟩ = some (.slice importsAx0 importsNx0 importsCx0) := bX0.cell 1
  have c69_bX02 : w8.cell? ⟨w4.heap.size, 2, none⟩ = some (.slice coresAx0 coresNx0 coresCx0) := bX0.cell 2
  have hA := b0.lt
  have hX := bX0.lt
  have TC := Lib.hid (toModule_all _ w.heap.size [.int .i64 pages, importsV, coresV] w8.drew hB8.size (by rw [← Z0.out]; omega) (by exact R0.out.below hB8.drew))
  go_region_held3 (fun w' => w'.cell? ⟨w.heap.size, 0, none⟩ = some (.int .i64 pages) ∧ w'.cell? ⟨w.heap.size, 1, none⟩ = some (importsV) ∧ w'.cell? ⟨w.heap.size, 2, none⟩ = some (coresV) ∧ w'.cell? ⟨w4.heap.size, 0, none⟩ = some (.int .i64 pages) ∧ w'.cell? ⟨w4.heap.size, 1, none⟩ = some (.slice importsAx0 importsNx0 importsCx0) ∧ w'.cell? ⟨w4.heap.size, 2, none⟩ = some (.slice coresAx0 coresNx0 coresCx0))
    (first | go_keep | exact ⟨(hby.cell (p := ⟨w.heap.size, 0, none⟩) hA).trans c64_b00, (hby.cell (p := ⟨w.heap.size, 1, none⟩) hA).trans c65_b01, (hby.cell (p := ⟨w.heap.size, 2, none⟩) hA).trans c66_b02, (hby.cell (p := ⟨w4.heap.size, 0, none⟩) hX).trans c67_bX00, (hby.cell (p := ⟨w4.heap.size, 1, none⟩) hX).trans c68_bX01, (hby.cell (p := ⟨w4.heap.size, 2, none⟩) hX).trans c69_bX02⟩ | exact ⟨(hbyz.cell (p := ⟨w.heap.size, 0, none⟩) hA).trans c64_b00, (hbyz.cell (p := ⟨w.heap.size, 1, none⟩) hA).trans c65_b01, (hbyz.cell (p := ⟨w.heap.size, 2, none⟩) hA).trans c66_b02, (hbyz.cell (p := ⟨w4.heap.size, 0, none⟩) hX).trans c67_bX00, (hbyz.cell (p := ⟨w4.heap.size, 1, none⟩) hX).trans c68_bX01, (hbyz.cell (p := ⟨w4.heap.size, 2, none⟩) hX).trans c69_bX02⟩)
    (first | (go_at_call 8; refine TC.out.mono ?_; rintro e wy ⟨uy, rfl, Ly, hby⟩; have Ky := Ly; obtain ⟨importsAy, importsNy, importsCy, coresAy, coresNy, coresCy, rfl⟩ := Mod.lopen Ky; have Lxy := Lx0.step ((Below.refl w8.heap.size w8).drew.trans hby)) | (go_at_call 10; refine (eqModule_all _ wy.heap.size [.int .i64 pages, .slice importsAx0 importsNx0 importsCx0, .slice coresAx0 coresNx0 coresCx0] [.int .i64 pages, .slice importsAy importsNy importsCy, .slice coresAy coresNy coresCy] _ (Nat.le_refl _) (by exact Lxy.is) (by exact Ly.is)).mono ?_; rintro e w9 ⟨rfl, hbz⟩; have hbyz : Below w8.heap.size w8 w9 := ((Below.refl _ _).drew.trans hby).trans (hbz.mono hby.size)))
  have hb9 := hbyz
  have hs9 := hb9.size
  have hB9 := hB8.trans (hb9.mono hB8.size)
  replace Lx0 := Lx0.step hb9
  replace Lx1 := Lx1.step hb9
  replace b0 := b0.step hb9
  replace b1 := b1.step hb9
  replace bX0 := bX0.step hb9
  replace bX1 := bX1.step hb9
  clear hbyz hbz hby Lxy Ly TC hA hX
  clear c64_b00 c65_b01 c66_b02 c67_bX00 c68_bX01 c69_bX02
  have c70_b00 : w9.cell? ⟨w.heap.size, 0, none⟩ = some (.int .i64 pages) := b0.cell 0
  have c71_b01 : w9.cell? ⟨w.heap.size, 1, none⟩ = some (importsV) := b0.cell 1
  have c72_b02 : w9.cell? ⟨w.heap.size, 2, none⟩ = some (coresV) := b0.cell 2
  have c73_b10 : w9.cell? ⟨(w.heap.size + 1), 0, none⟩ = some (.int .i64 Zpages) := b1.cell 0
  have c74_b11 : w9.cell? ⟨(w.heap.size + 1), 1, none⟩ = some (ZimportsV) := b1.cell 1
  have c75_b12 : w9.cell? ⟨(w.heap.size + 1), 2, none⟩ = some (ZcoresV) := b1.cell 2
  have c76_bX00 : w9.cell? ⟨w4.heap.size, 0, none⟩ = some (.int .i64 pages) := bX0.cell 0
  have c77_bX01 : w9.cell? ⟨w4.heap.size, 1, none⟩ = some (.slice importsAx0 importsNx0 importsCx0) := bX0.cell 1
  have c78_bX02 : w9.cell? ⟨w4.heap.size, 2, none⟩ = some (.slice coresAx0 coresNx0 coresCx0) := bX0.cell 2
  have c79_bX10 : w9.cell? ⟨w6.heap.size, 0, none⟩ = some (.int .i64 Zpages) := bX1.cell 0
  have c80_bX11 : w9.cell? ⟨w6.heap.size, 1, none⟩ = some (.slice ZimportsAx1 ZimportsNx1 ZimportsCx1) := bX1.cell 1
  have c81_bX12 : w9.cell? ⟨w6.heap.size, 2, none⟩ = some (.slice ZcoresAx1 ZcoresNx1 ZcoresCx1) := bX1.cell 2
  go_wp2_with fail
  clear c70_b00 c71_b01 c72_b02 c73_b10 c74_b11 c75_b12 c76_bX00 c77_bX01 c78_bX02 c79_bX10 c80_bX11 c81_bX12
  have c82_b10 : w9.cell? ⟨(w.heap.size + 1), 0, none⟩ = some (.int .i64 Zpages) := b1.cell 0
  have c83_b11 : w9.cell? ⟨(w.heap.size + 1), 1, none⟩ = some (ZimportsV) := b1.cell 1
  have c84_b12 : w9.cell? ⟨(w.heap.size + 1), 2, none⟩ = some (ZcoresV) := b1.cell 2
  have c85_bX10 : w9.cell? ⟨w6.heap.size, 0, none⟩ = some (.int .i64 Zpages) := bX1.cell 0
  have c86_bX11 : w9.cell? ⟨w6.heap.size, 1, none⟩ = some (.slice ZimportsAx1 ZimportsNx1 ZimportsCx1) := bX1.cell 1
  have c87_bX12 : w9.cell? ⟨w6.heap.size, 2, none⟩ = some (.slice ZcoresAx1 ZcoresNx1 ZcoresCx1) := bX1.cell 2
  have hA := b1.lt
  have hX := bX1.lt
  have TC := Lib.hid (toModule_all _ w.heap.size [.int .i64 Zpages, ZimportsV, ZcoresV] w9.drew hB9.size (by rw [← Z1.out]; omega) (by exact R1.out.below hB9.drew))
  go_region_held3 (fun w' => w'.cell? ⟨(w.heap.size + 1), 0, none⟩ = some (.int .i64 Zpages) ∧ w'.cell? ⟨(w.heap.size + 1), 1, none⟩ = some (ZimportsV) ∧ w'.cell? ⟨(w.heap.size + 1), 2, none⟩ = some (ZcoresV) ∧ w'.cell? ⟨w6.heap.size, 0, none⟩ = some (.int .i64 Zpages) ∧ w'.cell? ⟨w6.heap.size, 1, none⟩ = some (.slice ZimportsAx1 ZimportsNx1 ZimportsCx1) ∧ w'.cell? ⟨w6.heap.size, 2, none⟩ = some (.slice ZcoresAx1 ZcoresNx1 ZcoresCx1))
    (first | go_keep | exact ⟨(hby.cell (p := ⟨(w.heap.size + 1), 0, none⟩) hA).trans c82_b10, (hby.cell (p := ⟨(w.heap.size + 1), 1, none⟩) hA).trans c83_b11, (hby.cell (p := ⟨(w.heap.size + 1), 2, none⟩) hA).trans c84_b12, (hby.cell (p := ⟨w6.heap.size, 0, none⟩) hX).trans c85_bX10, (hby.cell (p := ⟨w6.heap.size, 1, none⟩) hX).trans c86_bX11, (hby.cell (p := ⟨w6.heap.size, 2, none⟩) hX).trans c87_bX12⟩ | exact ⟨(hbyz.cell (p := ⟨(w.heap.size + 1), 0, none⟩) hA).trans c82_b10, (hbyz.cell (p := ⟨(w.heap.size + 1), 1, none⟩) hA).trans c83_b11, (hbyz.cell (p := ⟨(w.heap.size + 1), 2, none⟩) hA).trans c84_b12, (hbyz.cell (p := ⟨w6.heap.size, 0, none⟩) hX).trans c85_bX10, (hbyz.cell (p := ⟨w6.heap.size, 1, none⟩) hX).trans c86_bX11, (hbyz.cell (p := ⟨w6.heap.size, 2, none⟩) hX).trans c87_bX12⟩)
    (first | (go_at_call 8; refine TC.out.mono ?_; rintro e wy ⟨uy, rfl, Ly, hby⟩; have Ky := Ly; obtain ⟨ZimportsAy, ZimportsNy, ZimportsCy, ZcoresAy, ZcoresNy, ZcoresCy, rfl⟩ := Mod.lopen Ky; have Lxy := Lx1.step ((Below.refl w9.heap.size w9).drew.trans hby)) | (go_at_call 10; refine (eqModule_all _ wy.heap.size [.int .i64 Zpages, .slice ZimportsAx1 ZimportsNx1 ZimportsCx1, .slice ZcoresAx1 ZcoresNx1 ZcoresCx1] [.int .i64 Zpages, .slice ZimportsAy ZimportsNy ZimportsCy, .slice ZcoresAy ZcoresNy ZcoresCy] _ (Nat.le_refl _) (by exact Lxy.is) (by exact Ly.is)).mono ?_; rintro e w10 ⟨rfl, hbz⟩; have hbyz : Below w9.heap.size w9 w10 := ((Below.refl _ _).drew.trans hby).trans (hbz.mono hby.size)))
  have hb10 := hbyz
  have hs10 := hb10.size
  have hB10 := hB9.trans (hb10.mono hB9.size)
  replace Lx0 := Lx0.step hb10
  replace Lx1 := Lx1.step hb10
  replace b0 := b0.step hb10
  replace b1 := b1.step hb10
  replace bX0 := bX0.step hb10
  replace bX1 := bX1.step hb10
  clear hbyz hbz hby Lxy Ly TC hA hX
  clear c82_b10 c83_b11 c84_b12 c85_bX10 c86_bX11 c87_bX12
  go_wp2_with fail
  go_ret
  exact ⟨rfl, hB10⟩

end Go.Proofs.Ytnedcpoengcbaaa
