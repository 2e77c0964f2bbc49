/-
  FnExactBlocksOf: the law's walk (by program: lawgen2.py).
-/
import Derived.Test.YtnedcpoengcbaaaArg
import Derived.Test.YtnedcpoengcbaaaSz
import Derived.Test.YtnedcpoengcbaaaTo
import Derived.Test.YtnedcpoengcbaaaEq
import Derived.Test.YtnedcpoengcbaaaMk
import Derived.Test.YtnedcpoengcbaaaHd
import Derived.Test.YtnedcpoengcbaaaBlkK
namespace Go.Proofs.Ytnedcpoengcbaaa
open Go.RowKit
set_option linter.unusedVariables false
set_option linter.unusedSimpArgs false
set_option linter.unnecessarySimpa false
set_option maxRecDepth 100000

set_option maxHeartbeats 6400000 in
theorem walk_FnExactBlocksOf (w : World) (v0 : Value) (h0 : ArgCore w v0) :
    Calls Try.prog 5 #[v0] w fun e w' => e = .returned (.bool true) ∧ Below w.heap.size w w' := by
  obtain ⟨t, cs, rfl, hwf, hr⟩ := h0
  obtain ⟨name, params, locals, result, code⟩ := t
  obtain ⟨codeV, rfl, _⟩ := Core.open_ hr
  have WF0 := Lib.hid hwf
  have R0 := Lib.hid hr
  clear hwf hr
  obtain ⟨z0, hz⟩ : ∃ z : Nat, z = PD.szL (Core.pd ⟨name, params, locals, result, code⟩) := ⟨_, rfl⟩
  have Z0 := Lib.hid hz
  clear hz
  by_cases ht0 : z0 ≤ 1048576
  case neg =>
    go_enter Try.func5, Try.ntmps5
    go_wp2_with fail
    obtain ⟨w0, hw0⟩ : ∃ W, W = (w.alloc (.cells #[.string name, .int .i64 params, .int .i64 locals, .bool result, codeV] 48)) := ⟨_, rfl⟩
    rw [← hw0]
    have hB0 : Below w.heap.size w w0 := by rw [hw0]; exact (Below.refl _ _).alloc (Nat.le_refl _) _
    have b0 : Blk w0 w.heap.size 48 #[.string name, .int .i64 params, .int .i64 locals, .bool result, codeV] := by rw [hw0]; exact (Blk.new w _ _)
    clear hw0
    have hs0 := hB0.size
    refine (szCore_all _ w.heap.size [.string name, .int .i64 params, .int .i64 locals, .bool result, codeV] _ (1048576) (by omega) (by omega) hB0.size WF0.out (R0.out.below hB0)).mono ?_
    rintro e w1 ⟨rfl, hb1⟩
    have hs1 := hb1.size
    have hB1 := hB0.trans (hb1.mono hB0.size)
    replace b0 := b0.step hb1
    rw [← Z0.out, szLeft_no (by omega)]
    go_wp2_with fail
    go_ret
    exact ⟨rfl, hB1⟩
  have SP := specBlocksOf_ok (⟨name, params, locals, result, code⟩ : Core) WF0.out (by rw [← Z0.out]; omega)
  have IM := implBlocksOf_ok (⟨name, params, locals, result, code⟩ : Core) WF0.out (by rw [← Z0.out]; omega)
  obtain ⟨rs, hrr⟩ : ∃ r : List CodeBlock, r = (blkR ⟨name, params, locals, result, code⟩).1 := ⟨_, rfl⟩
  have hrb := blkR_cnt ⟨name, params, locals, result, code⟩
  rw [← hrr] at SP IM hrb
  clear hrr
  obtain ⟨r1, hrr⟩ : ∃ r : Int, r = (blkR ⟨name, params, locals, result, code⟩).2.1 := ⟨_, rfl⟩
  rw [← hrr] at SP IM
  clear hrr
  have hne1 : (r1 != r1) = false := by simp
  obtain ⟨r2, hrr⟩ : ∃ r : Int, r = (blkR ⟨name, params, locals, result, code⟩).2.2 := ⟨_, rfl⟩
  rw [← hrr] at SP IM
  clear hrr
  have hne2 : (r2 != r2) = false := by simp
  obtain ⟨m, hm⟩ : ∃ m : Nat, m = PD.cnt (PD.row 5 (rs.flatMap CodeBlock.pd)) := ⟨_, rfl⟩
  rw [← hm] at hrb
  have M := Lib.hid hm
  clear hm
  have hqb0 := rowsCnt_le _ (Core.fit (⟨name, params, locals, result, code⟩ : Core))
  obtain ⟨q0, hq⟩ : ∃ q : Nat, q = rowsCnt (Core.pd ⟨name, params, locals, result, code⟩) := ⟨_, rfl⟩
  rw [← Z0.out] at hqb0
  rw [← hq] at hqb0
  have Q0 := Lib.hid hq
  clear hq
  have SP' := Lib.hid SP
  have IM' := Lib.hid IM
  clear SP IM
  go_enter Try.func5, Try.ntmps5
  go_wp2_with fail
  obtain ⟨w0, hw0⟩ : ∃ W, W = (w.alloc (.cells #[.string name, .int .i64 params, .int .i64 locals, .bool result, codeV] 48)) := ⟨_, rfl⟩
  rw [← hw0]
  have hB0 : Below w.heap.size w w0 := by rw [hw0]; exact (Below.refl _ _).alloc (Nat.le_refl _) _
  have b0 : Blk w0 w.heap.size 48 #[.string name, .int .i64 params, .int .i64 locals, .bool result, codeV] := by rw [hw0]; exact (Blk.new w _ _)
  clear hw0
  have hs0 := hB0.size
  have hl0 := b0.lt
  refine (szCore_all _ w.heap.size [.string name, .int .i64 params, .int .i64 locals, .bool result, codeV] _ (1048576) (by omega) (by omega) hB0.size WF0.out (R0.out.below hB0)).mono ?_
  rintro e w1 ⟨rfl, hb1⟩
  have hs1 := hb1.size
  have hB1 := hB0.trans (hb1.mono hB0.size)
  replace b0 := b0.step hb1
  rw [← Z0.out, szLeft_yes (by omega)]
  have hp0 : (0 : Int) ≤ 1048576 - (z0 : Int) := by omega
  have c1_b00 : w1.cell? ⟨w.heap.size, 0, none⟩ = some (.string name) := b0.cell 0
  have c2_b01 : w1.cell? ⟨w.heap.size, 1, none⟩ = some (.int .i64 params) := b0.cell 1
  have c3_b02 : w1.cell? ⟨w.heap.size, 2, none⟩ = some (.int .i64 locals) := b0.cell 2
  have c4_b03 : w1.cell? ⟨w.heap.size, 3, none⟩ = some (.bool result) := b0.cell 3
  have c5_b04 : w1.cell? ⟨w.heap.size, 4, none⟩ = some (codeV) := b0.cell 4
  go_wp2_with fail
  clear c1_b00 c2_b01 c3_b02 c4_b03 c5_b04
  refine (toCore_all _ w.heap.size [.string name, .int .i64 params, .int .i64 locals, .bool result, codeV] _ hB1.size (by rw [← Z0.out]; omega) (R0.out.below hB1)).mono ?_
  rintro e w2 ⟨us0, rfl, Ls0, hb2⟩
  have hs2 := hb2.size
  have hB2 := hB1.trans (hb2.mono hB1.size)
  replace b0 := b0.step hb2
  have Ks0 := Ls0
  obtain ⟨codeAs0, codeNs0, codeCs0, rfl⟩ := Core.lopen Ks0
  clear Ks0
  have c6_b00 : w2.cell? ⟨w.heap.size, 0, none⟩ = some (.string name) := b0.cell 0
  have c7_b01 : w2.cell? ⟨w.heap.size, 1, none⟩ = some (.int .i64 params) := b0.cell 1
  have c8_b02 : w2.cell? ⟨w.heap.size, 2, none⟩ = some (.int .i64 locals) := b0.cell 2
  have c9_b03 : w2.cell? ⟨w.heap.size, 3, none⟩ = some (.bool result) := b0.cell 3
  have c10_b04 : w2.cell? ⟨w.heap.size, 4, none⟩ = some (codeV) := b0.cell 4
  go_wp2_with fail
  clear c6_b00 c7_b01 c8_b02 c9_b03 c10_b04
  refine (SP'.out w2.heap.size [.string name, .int .i64 params, .int .i64 locals, .bool result, .slice codeAs0 codeNs0 codeCs0] _ (Nat.le_refl _) Ls0.is).mono ?_
  rintro e w3 ⟨vw, rfl, Gw, hb3⟩
  have hs3 := hb3.size
  have hB3 := hB2.trans (hb3.mono hB2.size)
  replace Ls0 := Ls0.step hb3
  replace b0 := b0.step hb3
  obtain ⟨Aw, nw, cw, rfl⟩ := Gw.form
  clear Ls0
  have c11_b00 : w3.cell? ⟨w.heap.size, 0, none⟩ = some (.string name) := b0.cell 0
  have c12_b01 : w3.cell? ⟨w.heap.size, 1, none⟩ = some (.int .i64 params) := b0.cell 1
  have c13_b02 : w3.cell? ⟨w.heap.size, 2, none⟩ = some (.int .i64 locals) := b0.cell 2
  have c14_b03 : w3.cell? ⟨w.heap.size, 3, none⟩ = some (.bool result) := b0.cell 3
  have c15_b04 : w3.cell? ⟨w.heap.size, 4, none⟩ = some (codeV) := b0.cell 4
  go_wp2_with fail
  clear c11_b00 c12_b01 c13_b02 c14_b03 c15_b04
  refine (toCore_all _ w.heap.size [.string name, .int .i64 params, .int .i64 locals, .bool result, codeV] _ hB3.size (by rw [← Z0.out]; omega) (R0.out.below hB3)).mono ?_
  rintro e w4 ⟨ux0, rfl, Lx0, hb4⟩
  have hs4 := hb4.size
  have hB4 := hB3.trans (hb4.mono hB3.size)
  replace Gw := Gw.step hb4
  replace b0 := b0.step hb4
  have Kx0 := Lx0
  obtain ⟨codeAx0, codeNx0, codeCx0, rfl⟩ := Core.lopen Kx0
  clear Kx0
  obtain ⟨w5, hw5⟩ : ∃ W, W = (w4.alloc (.cells #[.string name, .int .i64 params, .int .i64 locals, .bool result, .slice codeAx0 codeNx0 codeCx0] 55)) := ⟨_, rfl⟩
  have hb5 : Below w4.heap.size w4 w5 := by rw [hw5]; exact (Below.refl _ _).alloc (Nat.le_refl _) _
  have bX0 : Blk w5 w4.heap.size 55 #[.string name, .int .i64 params, .int .i64 locals, .bool result, .slice codeAx0 codeNx0 codeCx0] := by rw [hw5]; exact Blk.new w4 _ _
  have HW5 := Lib.hid hw5
  clear hw5
  have lb5 := bX0.lt
  have hs5 := hb5.size
  have hB5 := hB4.trans (hb5.mono hB4.size)
  replace Gw := Gw.step hb5
  replace Lx0 := Lx0.step hb5
  replace b0 := b0.step hb5
  have c16_b00 : (w4.alloc (.cells #[.string name, .int .i64 params, .int .i64 locals, .bool result, .slice codeAx0 codeNx0 codeCx0] 55)).cell? ⟨w.heap.size, 0, none⟩ = some (.string name) := by rw [← HW5.out]; exact b0.cell 0
  have c17_b01 : (w4.alloc (.cells #[.string name, .int .i64 params, .int .i64 locals, .bool result, .slice codeAx0 codeNx0 codeCx0] 55)).cell? ⟨w.heap.size, 1, none⟩ = some (.int .i64 params) := by rw [← HW5.out]; exact b0.cell 1
  have c18_b02 : (w4.alloc (.cells #[.string name, .int .i64 params, .int .i64 locals, .bool result, .slice codeAx0 codeNx0 codeCx0] 55)).cell? ⟨w.heap.size, 2, none⟩ = some (.int .i64 locals) := by rw [← HW5.out]; exact b0.cell 2
  have c19_b03 : (w4.alloc (.cells #[.string name, .int .i64 params, .int .i64 locals, .bool result, .slice codeAx0 codeNx0 codeCx0] 55)).cell? ⟨w.heap.size, 3, none⟩ = some (.bool result) := by rw [← HW5.out]; exact b0.cell 3
  have c20_b04 : (w4.alloc (.cells #[.string name, .int .i64 params, .int .i64 locals, .bool result, .slice codeAx0 codeNx0 codeCx0] 55)).cell? ⟨w.heap.size, 4, none⟩ = some (codeV) := by rw [← HW5.out]; exact b0.cell 4
  have c21_bX00 : (w4.alloc (.cells #[.string name, .int .i64 params, .int .i64 locals, .bool result, .slice codeAx0 codeNx0 codeCx0] 55)).cell? ⟨w4.heap.size, 0, none⟩ = some (.string name) := by rw [← HW5.out]; exact bX0.cell 0
  have c22_bX01 : (w4.alloc (.cells #[.string name, .int .i64 params, .int .i64 locals, .bool result, .slice codeAx0 codeNx0 codeCx0] 55)).cell? ⟨w4.heap.size, 1, none⟩ = some (.int .i64 params) := by rw [← HW5.out]; exact bX0.cell 1
  have c23_bX02 : (w4.alloc (.cells #[.string name, .int .i64 params, .int .i64 locals, .bool result, .slice codeAx0 codeNx0 codeCx0] 55)).cell? ⟨w4.heap.size, 2, none⟩ = some (.int .i64 locals) := by rw [← HW5.out]; exact bX0.cell 2
  have c24_bX03 : (w4.alloc (.cells #[.string name, .int .i64 params, .int .i64 locals, .bool result, .slice codeAx0 codeNx0 codeCx0] 55)).cell? ⟨w4.heap.size, 3, none⟩ = some (.bool result) := by rw [← HW5.out]; exact bX0.cell 3
  have c25_bX04 : (w4.alloc (.cells #[.string name, .int .i64 params, .int .i64 locals, .bool result, .slice codeAx0 codeNx0 codeCx0] 55)).cell? ⟨w4.heap.size, 4, none⟩ = some (.slice codeAx0 codeNx0 codeCx0) := by rw [← HW5.out]; exact bX0.cell 4
  go_wp2_with fail
  rw [← HW5.out]
  clear c16_b00 c17_b01 c18_b02 c19_b03 c20_b04 c21_bX00 c22_bX01 c23_bX02 c24_bX03 c25_bX04
  clear HW5
  refine (IM'.out w5.heap.size [.string name, .int .i64 params, .int .i64 locals, .bool result, .slice codeAx0 codeNx0 codeCx0] _ (Nat.le_refl _) Lx0.is).mono ?_
  rintro e w6 ⟨vg, rfl, Gg, hb6⟩
  have hs6 := hb6.size
  have hB6 := hB5.trans (hb6.mono hB5.size)
  replace Gw := Gw.step hb6
  replace Lx0 := Lx0.step hb6
  replace b0 := b0.step hb6
  replace bX0 := bX0.step hb6
  obtain ⟨Ag, ng, cg, rfl⟩ := Gg.form
  have c26_b00 : w6.cell? ⟨w.heap.size, 0, none⟩ = some (.string name) := b0.cell 0
  have c27_b01 : w6.cell? ⟨w.heap.size, 1, none⟩ = some (.int .i64 params) := b0.cell 1
  have c28_b02 : w6.cell? ⟨w.heap.size, 2, none⟩ = some (.int .i64 locals) := b0.cell 2
  have c29_b03 : w6.cell? ⟨w.heap.size, 3, none⟩ = some (.bool result) := b0.cell 3
  have c30_b04 : w6.cell? ⟨w.heap.size, 4, none⟩ = some (codeV) := b0.cell 4
  have c31_bX00 : w6.cell? ⟨w4.heap.size, 0, none⟩ = some (.string name) := bX0.cell 0
  have c32_bX01 : w6.cell? ⟨w4.heap.size, 1, none⟩ = some (.int .i64 params) := bX0.cell 1
  have c33_bX02 : w6.cell? ⟨w4.heap.size, 2, none⟩ = some (.int .i64 locals) := bX0.cell 2
  have c34_bX03 : w6.cell? ⟨w4.heap.size, 3, none⟩ = some (.bool result) := bX0.cell 3
  have c35_bX04 : w6.cell? ⟨w4.heap.size, 4, none⟩ = some (.slice codeAx0 codeNx0 codeCx0) := bX0.cell 4
  go_wp2_with fail
  clear c26_b00 c27_b01 c28_b02 c29_b03 c30_b04 c31_bX00 c32_bX01 c33_bX02 c34_bX03 c35_bX04
  refine (eqCodeBlockS_all rs w6.heap.size _ _ _ (Nat.le_refl _) Gg.is Gw.is).mono ?_
  rintro e w7 ⟨rfl, hb7⟩
  have hs7 := hb7.size
  have hB7 := hB6.trans (hb7.mono hB6.size)
  replace Gw := Gw.step hb7
  replace Lx0 := Lx0.step hb7
  replace Gg := Gg.step hb7
  replace b0 := b0.step hb7
  replace bX0 := bX0.step hb7
  have c36_b00 : w7.cell? ⟨w.heap.size, 0, none⟩ = some (.string name) := b0.cell 0
  have c37_b01 : w7.cell? ⟨w.heap.size, 1, none⟩ = some (.int .i64 params) := b0.cell 1
  have c38_b02 : w7.cell? ⟨w.heap.size, 2, none⟩ = some (.int .i64 locals) := b0.cell 2
  have c39_b03 : w7.cell? ⟨w.heap.size, 3, none⟩ = some (.bool result) := b0.cell 3
  have c40_b04 : w7.cell? ⟨w.heap.size, 4, none⟩ = some (codeV) := b0.cell 4
  have c41_bX00 : w7.cell? ⟨w4.heap.size, 0, none⟩ = some (.string name) := bX0.cell 0
  have c42_bX01 : w7.cell? ⟨w4.heap.size, 1, none⟩ = some (.int .i64 params) := bX0.cell 1
  have c43_bX02 : w7.cell? ⟨w4.heap.size, 2, none⟩ = some (.int .i64 locals) := bX0.cell 2
  have c44_bX03 : w7.cell? ⟨w4.heap.size, 3, none⟩ = some (.bool result) := bX0.cell 3
  have c45_bX04 : w7.cell? ⟨w4.heap.size, 4, none⟩ = some (.slice codeAx0 codeNx0 codeCx0) := bX0.cell 4
  go_wp2_with fail
  clear c36_b00 c37_b01 c38_b02 c39_b03 c40_b04 c41_bX00 c42_bX01 c43_bX02 c44_bX03 c45_bX04
  have c46_b00 : w7.cell? ⟨w.heap.size, 0, none⟩ = some (.string name) := b0.cell 0
  have c47_b01 : w7.cell? ⟨w.heap.size, 1, none⟩ = some (.int .i64 params) := b0.cell 1
  have c48_b02 : w7.cell? ⟨w.heap.size, 2, none⟩ = some (.int .i64 locals) := b0.cell 2
  have c49_b03 : w7.cell? ⟨w.heap.size, 3, none⟩ = some (.bool result) := b0.cell 3
  have c50_b04 : w7.cell? ⟨w.heap.size, 4, none⟩ = some (codeV) := b0.cell 4
  have c51_bX00 : w7.cell? ⟨w4.heap.size, 0, none⟩ = some (.string name) := bX0.cell 0
  have c52_bX01 : w7.cell? ⟨w4.heap.size, 1, none⟩ = some (.int .i64 params) := bX0.cell 1
  have c53_bX02 : w7.cell? ⟨w4.heap.size, 2, none⟩ = some (.int .i64 locals) := bX0.cell 2
  have c54_bX03 : w7.cell? ⟨w4.heap.size, 3, none⟩ = some (.bool result) := bX0.cell 3
  have c55_bX04 : w7.cell? ⟨w4.heap.size, 4, none⟩ = some (.slice codeAx0 codeNx0 codeCx0) := bX0.cell 4
  have hA := b0.lt
  have hX := bX0.lt
  have TC := Lib.hid (toCore_all _ w.heap.size [.string name, .int .i64 params, .int .i64 locals, .bool result, codeV] w7.drew hB7.size (by rw [← Z0.out]; omega) (by exact R0.out.below hB7.drew))
  go_region_held3 (fun w' => w'.cell? ⟨w.heap.size, 0, none⟩ = some (.string name) ∧ w'.cell? ⟨w.heap.size, 1, none⟩ = some (.int .i64 params) ∧ w'.cell? ⟨w.heap.size, 2, none⟩ = some (.int .i64 locals) ∧ w'.cell? ⟨w.heap.size, 3, none⟩ = some (.bool result) ∧ w'.cell? ⟨w.heap.size, 4, none⟩ = some (codeV) ∧ w'.cell? ⟨w4.heap.size, 0, none⟩ = some (.string name) ∧ w'.cell? ⟨w4.heap.size, 1, none⟩ = some (.int .i64 params) ∧ w'.cell? ⟨w4.heap.size, 2, none⟩ = some (.int .i64 locals) ∧ w'.cell? ⟨w4.heap.size, 3, none⟩ = some (.bool result) ∧ w'.cell? ⟨w4.heap.size, 4, none⟩ = some (.slice codeAx0 codeNx0 codeCx0))
    (first | go_keep | exact ⟨(hby.cell (p := ⟨w.heap.size, 0, none⟩) hA).trans c46_b00, (hby.cell (p := ⟨w.heap.size, 1, none⟩) hA).trans c47_b01, (hby.cell (p := ⟨w.heap.size, 2, none⟩) hA).trans c48_b02, (hby.cell (p := ⟨w.heap.size, 3, none⟩) hA).trans c49_b03, (hby.cell (p := ⟨w.heap.size, 4, none⟩) hA).trans c50_b04, (hby.cell (p := ⟨w4.heap.size, 0, none⟩) hX).trans c51_bX00, (hby.cell (p := ⟨w4.heap.size, 1, none⟩) hX).trans c52_bX01, (hby.cell (p := ⟨w4.heap.size, 2, none⟩) hX).trans c53_bX02, (hby.cell (p := ⟨w4.heap.size, 3, none⟩) hX).trans c54_bX03, (hby.cell (p := ⟨w4.heap.size, 4, none⟩) hX).trans c55_bX04⟩ | exact ⟨(hbyz.cell (p := ⟨w.heap.size, 0, none⟩) hA).trans c46_b00, (hbyz.cell (p := ⟨w.heap.size, 1, none⟩) hA).trans c47_b01, (hbyz.cell (p := ⟨w.heap.size, 2, none⟩) hA).trans c48_b02, (hbyz.cell (p := ⟨w.heap.size, 3, none⟩) hA).trans c49_b03, (hbyz.cell (p := ⟨w.heap.size, 4, none⟩) hA).trans c50_b04, (hbyz.cell (p := ⟨w4.heap.size, 0, none⟩) hX).trans c51_bX00, (hbyz.cell (p := ⟨w4.heap.size, 1, none⟩) hX).trans c52_bX01, (hbyz.cell (p := ⟨w4.heap.size, 2, none⟩) hX).trans c53_bX02, (hbyz.cell (p := ⟨w4.heap.size, 3, none⟩) hX).trans c54_bX03, (hbyz.cell (p := ⟨w4.heap.size, 4, none⟩) hX).trans c55_bX04⟩)
    (first | (go_at_call 18; refine TC.out.mono ?_; rintro e wy ⟨uy, rfl, Ly, hby⟩; have Ky := Ly; obtain ⟨codeAy, codeNy, codeCy, rfl⟩ := Core.lopen Ky; have Lxy := Lx0.step ((Below.refl w7.heap.size w7).drew.trans hby)) | (go_at_call 21; refine (eqCore_all _ wy.heap.size [.string name, .int .i64 params, .int .i64 locals, .bool result, .slice codeAx0 codeNx0 codeCx0] [.string name, .int .i64 params, .int .i64 locals, .bool result, .slice codeAy codeNy codeCy] _ (Nat.le_refl _) (by exact Lxy.is) (by exact Ly.is)).mono ?_; rintro e w8 ⟨rfl, hbz⟩; have hbyz : Below w7.heap.size w7 w8 := ((Below.refl _ _).drew.trans hby).trans (hbz.mono hby.size)))
  have hb8 := hbyz
  have hs8 := hb8.size
  have hB8 := hB7.trans (hb8.mono hB7.size)
  replace Gw := Gw.step hb8
  replace Lx0 := Lx0.step hb8
  replace Gg := Gg.step hb8
  replace b0 := b0.step hb8
  replace bX0 := bX0.step hb8
  clear hbyz hbz hby Lxy Ly TC hA hX
  clear c46_b00 c47_b01 c48_b02 c49_b03 c50_b04 c51_bX00 c52_bX01 c53_bX02 c54_bX03 c55_bX04
  have c56_b00 : w8.cell? ⟨w.heap.size, 0, none⟩ = some (.string name) := b0.cell 0
  have c57_b01 : w8.cell? ⟨w.heap.size, 1, none⟩ = some (.int .i64 params) := b0.cell 1
  have c58_b02 : w8.cell? ⟨w.heap.size, 2, none⟩ = some (.int .i64 locals) := b0.cell 2
  have c59_b03 : w8.cell? ⟨w.heap.size, 3, none⟩ = some (.bool result) := b0.cell 3
  have c60_b04 : w8.cell? ⟨w.heap.size, 4, none⟩ = some (codeV) := b0.cell 4
  have c61_bX00 : w8.cell? ⟨w4.heap.size, 0, none⟩ = some (.string name) := bX0.cell 0
  have c62_bX01 : w8.cell? ⟨w4.heap.size, 1, none⟩ = some (.int .i64 params) := bX0.cell 1
  have c63_bX02 : w8.cell? ⟨w4.heap.size, 2, none⟩ = some (.int .i64 locals) := bX0.cell 2
  have c64_bX03 : w8.cell? ⟨w4.heap.size, 3, none⟩ = some (.bool result) := bX0.cell 3
  have c65_bX04 : w8.cell? ⟨w4.heap.size, 4, none⟩ = some (.slice codeAx0 codeNx0 codeCx0) := bX0.cell 4
  go_wp2_with fail
  clear c56_b00 c57_b01 c58_b02 c59_b03 c60_b04 c61_bX00 c62_bX01 c63_bX02 c64_bX03 c65_bX04
  obtain ⟨Fx, hx1, hx2, hx3⟩ := Lx0
  refine (markCore_all _ [.string name, .int .i64 params, .int .i64 locals, .bool result, .slice codeAx0 codeNx0 codeCx0] Fx _ (1) (by omega) (by rw [← Q0.out]; omega) hx1 hx2.1 (fun b hb => Nat.lt_of_lt_of_le (hx2.2 b hb).2 hx3)).mono ?_
  rintro e w9 ⟨rfl, _, kf⟩
  rw [← Q0.out]
  have kk : Keep _ _ w8 w9 := kf.keep hx2.2
  have hs9 := kk.size
  have hB9 := hB8.trans ((kk.below (by omega)).mono (by omega))
  replace Gw := Gw.kept kk (by omega)
  replace Gg := Gg.kept kk (by omega)
  replace b0 := b0.keepF kf (fun hm => by have := hx2.2 _ hm; omega)
  replace bX0 := bX0.keepF kf (fun hm => by have := hx2.2 _ hm; omega)
  clear kf kk hx1 hx2 hx3
  have hk0 : ¬ (1 + (q0 : Int)) < 0 := by omega
  have c66_b00 : w9.cell? ⟨w.heap.size, 0, none⟩ = some (.string name) := b0.cell 0
  have c67_b01 : w9.cell? ⟨w.heap.size, 1, none⟩ = some (.int .i64 params) := b0.cell 1
  have c68_b02 : w9.cell? ⟨w.heap.size, 2, none⟩ = some (.int .i64 locals) := b0.cell 2
  have c69_b03 : w9.cell? ⟨w.heap.size, 3, none⟩ = some (.bool result) := b0.cell 3
  have c70_b04 : w9.cell? ⟨w.heap.size, 4, none⟩ = some (codeV) := b0.cell 4
  have c71_bX00 : w9.cell? ⟨w4.heap.size, 0, none⟩ = some (.string name) := bX0.cell 0
  have c72_bX01 : w9.cell? ⟨w4.heap.size, 1, none⟩ = some (.int .i64 params) := bX0.cell 1
  have c73_bX02 : w9.cell? ⟨w4.heap.size, 2, none⟩ = some (.int .i64 locals) := bX0.cell 2
  have c74_bX03 : w9.cell? ⟨w4.heap.size, 3, none⟩ = some (.bool result) := bX0.cell 3
  have c75_bX04 : w9.cell? ⟨w4.heap.size, 4, none⟩ = some (.slice codeAx0 codeNx0 codeCx0) := bX0.cell 4
  go_wp2_with fail
  clear c66_b00 c67_b01 c68_b02 c69_b03 c70_b04 c71_bX00 c72_bX01 c73_bX02 c74_bX03 c75_bX04
  refine (eqCodeBlockS_all rs w9.heap.size _ _ _ (Nat.le_refl _) Gg.is Gw.is).mono ?_
  rintro e w10 ⟨rfl, hb10⟩
  have hs10 := hb10.size
  have hB10 := hB9.trans (hb10.mono hB9.size)
  replace Gw := Gw.step hb10
  replace Gg := Gg.step hb10
  replace b0 := b0.step hb10
  replace bX0 := bX0.step hb10
  have c76_b00 : w10.cell? ⟨w.heap.size, 0, none⟩ = some (.string name) := b0.cell 0
  have c77_b01 : w10.cell? ⟨w.heap.size, 1, none⟩ = some (.int .i64 params) := b0.cell 1
  have c78_b02 : w10.cell? ⟨w.heap.size, 2, none⟩ = some (.int .i64 locals) := b0.cell 2
  have c79_b03 : w10.cell? ⟨w.heap.size, 3, none⟩ = some (.bool result) := b0.cell 3
  have c80_b04 : w10.cell? ⟨w.heap.size, 4, none⟩ = some (codeV) := b0.cell 4
  have c81_bX00 : w10.cell? ⟨w4.heap.size, 0, none⟩ = some (.string name) := bX0.cell 0
  have c82_bX01 : w10.cell? ⟨w4.heap.size, 1, none⟩ = some (.int .i64 params) := bX0.cell 1
  have c83_bX02 : w10.cell? ⟨w4.heap.size, 2, none⟩ = some (.int .i64 locals) := bX0.cell 2
  have c84_bX03 : w10.cell? ⟨w4.heap.size, 3, none⟩ = some (.bool result) := bX0.cell 3
  have c85_bX04 : w10.cell? ⟨w4.heap.size, 4, none⟩ = some (.slice codeAx0 codeNx0 codeCx0) := bX0.cell 4
  go_wp2_with fail
  clear c76_b00 c77_b01 c78_b02 c79_b03 c80_b04 c81_bX00 c82_bX01 c83_bX02 c84_bX03 c85_bX04
  obtain ⟨Fg, hg1, hg2, hg3⟩ := Gg
  refine (markCodeBlockS_all rs (.slice Ag ng cg) Fg _ 1 (by omega) (by rw [← M.out]; omega) hg1 hg2.1 (fun b hb => Nat.lt_of_lt_of_le (hg2.2 b hb).2 hg3)).mono ?_
  rintro e w11 ⟨rfl, hgm, kf⟩
  rw [← M.out]
  have hs11 := kf.size
  have kk : Keep _ _ w10 w11 := kf.keep hg2.2
  have hB11 := hB10.trans ((kk.below (by omega)).mono (by omega))
  replace Gw := Gw.kept kk (by omega)
  replace b0 := b0.keepF kf (fun hm => by have := hg2.2 _ hm; omega)
  replace bX0 := bX0.keepF kf (fun hm => by have := hg2.2 _ hm; omega)
  have Gm : Lv w11 _ _ ((PD.row 5 (rs.flatMap CodeBlock.pd)).mark 1) (.slice Ag ng cg) := ⟨Fg, hgm, hg2, Nat.le_trans hg3 kf.size⟩
  clear kf kk hg1 hg2 hg3 hgm
  have hk1 : ¬ (1 + (m : Int)) < 0 := by omega
  have hqm : ((1 + (m : Int)) != (1 + (m : Int))) = false := by simp
  have c86_b00 : w11.cell? ⟨w.heap.size, 0, none⟩ = some (.string name) := b0.cell 0
  have c87_b01 : w11.cell? ⟨w.heap.size, 1, none⟩ = some (.int .i64 params) := b0.cell 1
  have c88_b02 : w11.cell? ⟨w.heap.size, 2, none⟩ = some (.int .i64 locals) := b0.cell 2
  have c89_b03 : w11.cell? ⟨w.heap.size, 3, none⟩ = some (.bool result) := b0.cell 3
  have c90_b04 : w11.cell? ⟨w.heap.size, 4, none⟩ = some (codeV) := b0.cell 4
  have c91_bX00 : w11.cell? ⟨w4.heap.size, 0, none⟩ = some (.string name) := bX0.cell 0
  have c92_bX01 : w11.cell? ⟨w4.heap.size, 1, none⟩ = some (.int .i64 params) := bX0.cell 1
  have c93_bX02 : w11.cell? ⟨w4.heap.size, 2, none⟩ = some (.int .i64 locals) := bX0.cell 2
  have c94_bX03 : w11.cell? ⟨w4.heap.size, 3, none⟩ = some (.bool result) := bX0.cell 3
  have c95_bX04 : w11.cell? ⟨w4.heap.size, 4, none⟩ = some (.slice codeAx0 codeNx0 codeCx0) := bX0.cell 4
  go_wp2_with fail
  clear c86_b00 c87_b01 c88_b02 c89_b03 c90_b04 c91_bX00 c92_bX01 c93_bX02 c94_bX03 c95_bX04
  refine (heldCodeBlockS_all rs w11.heap.size _ _ 1 (by omega) (by rw [← M.out]; omega) (Nat.le_refl _) Gm.is).mono ?_
  rintro e w12 ⟨rfl, hb12⟩
  have hs12 := hb12.size
  have hB12 := hB11.trans (hb12.mono hB11.size)
  replace Gw := Gw.step hb12
  replace Gm := Gm.step hb12
  replace b0 := b0.step hb12
  replace bX0 := bX0.step hb12
  rw [← M.out]
  have c96_b00 : w12.cell? ⟨w.heap.size, 0, none⟩ = some (.string name) := b0.cell 0
  have c97_b01 : w12.cell? ⟨w.heap.size, 1, none⟩ = some (.int .i64 params) := b0.cell 1
  have c98_b02 : w12.cell? ⟨w.heap.size, 2, none⟩ = some (.int .i64 locals) := b0.cell 2
  have c99_b03 : w12.cell? ⟨w.heap.size, 3, none⟩ = some (.bool result) := b0.cell 3
  have c100_b04 : w12.cell? ⟨w.heap.size, 4, none⟩ = some (codeV) := b0.cell 4
  have c101_bX00 : w12.cell? ⟨w4.heap.size, 0, none⟩ = some (.string name) := bX0.cell 0
  have c102_bX01 : w12.cell? ⟨w4.heap.size, 1, none⟩ = some (.int .i64 params) := bX0.cell 1
  have c103_bX02 : w12.cell? ⟨w4.heap.size, 2, none⟩ = some (.int .i64 locals) := bX0.cell 2
  have c104_bX03 : w12.cell? ⟨w4.heap.size, 3, none⟩ = some (.bool result) := bX0.cell 3
  have c105_bX04 : w12.cell? ⟨w4.heap.size, 4, none⟩ = some (.slice codeAx0 codeNx0 codeCx0) := bX0.cell 4
  go_wp2_with fail
  clear c96_b00 c97_b01 c98_b02 c99_b03 c100_b04 c101_bX00 c102_bX01 c103_bX02 c104_bX03 c105_bX04
  refine (toCore_all _ w.heap.size [.string name, .int .i64 params, .int .i64 locals, .bool result, codeV] _ hB12.size (by rw [← Z0.out]; omega) (R0.out.below hB12)).mono ?_
  rintro e w13 ⟨uh0, rfl, Lh0, hb13⟩
  have hs13 := hb13.size
  have hB13 := hB12.trans (hb13.mono hB12.size)
  replace Gw := Gw.step hb13
  replace Gm := Gm.step hb13
  replace b0 := b0.step hb13
  replace bX0 := bX0.step hb13
  have Kh0 := Lh0
  obtain ⟨codeAh0, codeNh0, codeCh0, rfl⟩ := Core.lopen Kh0
  clear Kh0
  have c106_b00 : w13.cell? ⟨w.heap.size, 0, none⟩ = some (.string name) := b0.cell 0
  have c107_b01 : w13.cell? ⟨w.heap.size, 1, none⟩ = some (.int .i64 params) := b0.cell 1
  have c108_b02 : w13.cell? ⟨w.heap.size, 2, none⟩ = some (.int .i64 locals) := b0.cell 2
  have c109_b03 : w13.cell? ⟨w.heap.size, 3, none⟩ = some (.bool result) := b0.cell 3
  have c110_b04 : w13.cell? ⟨w.heap.size, 4, none⟩ = some (codeV) := b0.cell 4
  have c111_bX00 : w13.cell? ⟨w4.heap.size, 0, none⟩ = some (.string name) := bX0.cell 0
  have c112_bX01 : w13.cell? ⟨w4.heap.size, 1, none⟩ = some (.int .i64 params) := bX0.cell 1
  have c113_bX02 : w13.cell? ⟨w4.heap.size, 2, none⟩ = some (.int .i64 locals) := bX0.cell 2
  have c114_bX03 : w13.cell? ⟨w4.heap.size, 3, none⟩ = some (.bool result) := bX0.cell 3
  have c115_bX04 : w13.cell? ⟨w4.heap.size, 4, none⟩ = some (.slice codeAx0 codeNx0 codeCx0) := bX0.cell 4
  go_wp2_with fail
  clear c106_b00 c107_b01 c108_b02 c109_b03 c110_b04 c111_bX00 c112_bX01 c113_bX02 c114_bX03 c115_bX04
  refine (IM'.out w13.heap.size [.string name, .int .i64 params, .int .i64 locals, .bool result, .slice codeAh0 codeNh0 codeCh0] _ (Nat.le_refl _) Lh0.is).mono ?_
  rintro e w14 ⟨vh, rfl, Gh, hb14⟩
  have hs14 := hb14.size
  have hB14 := hB13.trans (hb14.mono hB13.size)
  replace Gw := Gw.step hb14
  replace Gm := Gm.step hb14
  replace Lh0 := Lh0.step hb14
  replace b0 := b0.step hb14
  replace bX0 := bX0.step hb14
  obtain ⟨Ah, nh, ch, rfl⟩ := Gh.form
  clear Lh0
  have c116_b00 : w14.cell? ⟨w.heap.size, 0, none⟩ = some (.string name) := b0.cell 0
  have c117_b01 : w14.cell? ⟨w.heap.size, 1, none⟩ = some (.int .i64 params) := b0.cell 1
  have c118_b02 : w14.cell? ⟨w.heap.size, 2, none⟩ = some (.int .i64 locals) := b0.cell 2
  have c119_b03 : w14.cell? ⟨w.heap.size, 3, none⟩ = some (.bool result) := b0.cell 3
  have c120_b04 : w14.cell? ⟨w.heap.size, 4, none⟩ = some (codeV) := b0.cell 4
  have c121_bX00 : w14.cell? ⟨w4.heap.size, 0, none⟩ = some (.string name) := bX0.cell 0
  have c122_bX01 : w14.cell? ⟨w4.heap.size, 1, none⟩ = some (.int .i64 params) := bX0.cell 1
  have c123_bX02 : w14.cell? ⟨w4.heap.size, 2, none⟩ = some (.int .i64 locals) := bX0.cell 2
  have c124_bX03 : w14.cell? ⟨w4.heap.size, 3, none⟩ = some (.bool result) := bX0.cell 3
  have c125_bX04 : w14.cell? ⟨w4.heap.size, 4, none⟩ = some (.slice codeAx0 codeNx0 codeCx0) := bX0.cell 4
  go_wp2_with fail
  clear c116_b00 c117_b01 c118_b02 c119_b03 c120_b04 c121_bX00 c122_bX01 c123_bX02 c124_bX03 c125_bX04
  refine (eqCodeBlockS_all rs w14.heap.size _ _ _ (Nat.le_refl _) Gh.is Gw.is).mono ?_
  rintro e w15 ⟨rfl, hb15⟩
  have hs15 := hb15.size
  have hB15 := hB14.trans (hb15.mono hB14.size)
  replace Gw := Gw.step hb15
  replace Gm := Gm.step hb15
  replace Gh := Gh.step hb15
  replace b0 := b0.step hb15
  replace bX0 := bX0.step hb15
  have c126_b00 : w15.cell? ⟨w.heap.size, 0, none⟩ = some (.string name) := b0.cell 0
  have c127_b01 : w15.cell? ⟨w.heap.size, 1, none⟩ = some (.int .i64 params) := b0.cell 1
  have c128_b02 : w15.cell? ⟨w.heap.size, 2, none⟩ = some (.int .i64 locals) := b0.cell 2
  have c129_b03 : w15.cell? ⟨w.heap.size, 3, none⟩ = some (.bool result) := b0.cell 3
  have c130_b04 : w15.cell? ⟨w.heap.size, 4, none⟩ = some (codeV) := b0.cell 4
  have c131_bX00 : w15.cell? ⟨w4.heap.size, 0, none⟩ = some (.string name) := bX0.cell 0
  have c132_bX01 : w15.cell? ⟨w4.heap.size, 1, none⟩ = some (.int .i64 params) := bX0.cell 1
  have c133_bX02 : w15.cell? ⟨w4.heap.size, 2, none⟩ = some (.int .i64 locals) := bX0.cell 2
  have c134_bX03 : w15.cell? ⟨w4.heap.size, 3, none⟩ = some (.bool result) := bX0.cell 3
  have c135_bX04 : w15.cell? ⟨w4.heap.size, 4, none⟩ = some (.slice codeAx0 codeNx0 codeCx0) := bX0.cell 4
  go_wp2_with fail
  clear c126_b00 c127_b01 c128_b02 c129_b03 c130_b04 c131_bX00 c132_bX01 c133_bX02 c134_bX03 c135_bX04
  refine (heldCodeBlockS_all rs w15.heap.size _ _ 1 (by omega) (by rw [← M.out]; omega) (Nat.le_refl _) Gm.is).mono ?_
  rintro e w16 ⟨rfl, hb16⟩
  have hs16 := hb16.size
  have hB16 := hB15.trans (hb16.mono hB15.size)
  replace Gw := Gw.step hb16
  replace Gm := Gm.step hb16
  replace Gh := Gh.step hb16
  replace b0 := b0.step hb16
  replace bX0 := bX0.step hb16
  rw [← M.out]
  go_wp2_with fail
  go_ret
  exact ⟨rfl, hB16⟩

end Go.Proofs.Ytnedcpoengcbaaa
