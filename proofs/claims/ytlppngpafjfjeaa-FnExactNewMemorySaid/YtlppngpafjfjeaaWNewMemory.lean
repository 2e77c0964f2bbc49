/-
  FnExactNewMemory: the law's walk (by program: lawgen2.py).
-/
import Derived.Test.YtlppngpafjfjeaaArg
import Derived.Test.YtlppngpafjfjeaaSz
import Derived.Test.YtlppngpafjfjeaaTo
import Derived.Test.YtlppngpafjfjeaaEq
import Derived.Test.YtlppngpafjfjeaaMk
import Derived.Test.YtlppngpafjfjeaaHd
import Derived.Test.YtlppngpafjfjeaaNewMem
namespace Go.Proofs.Ytlppngpafjfjeaa
open Go.RowKit
set_option linter.unusedVariables false
set_option linter.unusedSimpArgs false
set_option linter.unnecessarySimpa false
set_option maxRecDepth 100000

set_option maxHeartbeats 6400000 in
theorem walk_FnExactNewMemory (w : World) (n : Int) (h_n : (Lit.int .i64 n).wf = true) :
    Calls Try.prog 6 #[.int .i64 n] w fun e w' => e = .returned (.bool true) ∧ Below w.heap.size w w' := by
  have SP := specNewMemory_ok  n h_n
  have IM := implNewMemory_ok  n h_n
  obtain ⟨rr, hrr⟩ : ∃ r : Memory, r = (memNew n).1 := ⟨_, rfl⟩
  have hrb := memNew_cnt n
  rw [← hrr] at SP IM hrb
  clear hrr
  obtain ⟨r_bytes, r_free⟩ := rr
  obtain ⟨r1, hrr⟩ : ∃ r : Int, r = (memNew n).2 := ⟨_, rfl⟩
  rw [← hrr] at SP IM
  clear hrr
  have hne1 : (r1 != r1) = false := by simp
  obtain ⟨m, hm⟩ : ∃ m : Nat, m = rowsCnt (Memory.pd ⟨r_bytes, r_free⟩) := ⟨_, rfl⟩
  rw [← hm] at hrb
  have M := Lib.hid hm
  clear hm
  have SP' := Lib.hid SP
  have IM' := Lib.hid IM
  clear SP IM
  go_enter Try.func6, Try.ntmps6
  go_wp2_with fail
  obtain ⟨w0, hw0⟩ : ∃ W, W = w := ⟨_, rfl⟩
  rw [← hw0]
  have hB0 : Below w.heap.size w w0 := by rw [hw0]; exact Below.refl _ _
  clear hw0
  have hs0 := hB0.size
  refine (SP'.out w0.heap.size  _ (Nat.le_refl _)).mono ?_
  rintro e w1 ⟨vw, rfl, Gw, hb1⟩
  have hs1 := hb1.size
  have hB1 := hB0.trans (hb1.mono hB0.size)
  have Kw := Gw
  obtain ⟨r_freeAw, r_freeNw, r_freeCw, rfl⟩ := Memory.lopen Kw
  clear Kw
  obtain ⟨w2, hw2⟩ : ∃ W, W = (w1.alloc (.cells #[.string r_bytes, .slice r_freeAw r_freeNw r_freeCw] 29)) := ⟨_, rfl⟩
  have hb2 : Below w1.heap.size w1 w2 := by rw [hw2]; exact (Below.refl _ _).alloc (Nat.le_refl _) _
  have bW : Blk w2 w1.heap.size 29 #[.string r_bytes, .slice r_freeAw r_freeNw r_freeCw] := by rw [hw2]; exact Blk.new w1 _ _
  have HW2 := Lib.hid hw2
  clear hw2
  have lb2 := bW.lt
  have hs2 := hb2.size
  have hB2 := hB1.trans (hb2.mono hB1.size)
  replace Gw := Gw.step hb2
  have c1_bW0 : (w1.alloc (.cells #[.string r_bytes, .slice r_freeAw r_freeNw r_freeCw] 29)).cell? ⟨w1.heap.size, 0, none⟩ = some (.string r_bytes) := by rw [← HW2.out]; exact bW.cell 0
  have c2_bW1 : (w1.alloc (.cells #[.string r_bytes, .slice r_freeAw r_freeNw r_freeCw] 29)).cell? ⟨w1.heap.size, 1, none⟩ = some (.slice r_freeAw r_freeNw r_freeCw) := by rw [← HW2.out]; exact bW.cell 1
  go_wp2_with fail
  rw [← HW2.out]
  clear c1_bW0 c2_bW1
  clear HW2
  refine (IM'.out w2.heap.size  _ (Nat.le_refl _)).mono ?_
  rintro e w3 ⟨vg, rfl, Gg, hb3⟩
  have hs3 := hb3.size
  have hB3 := hB2.trans (hb3.mono hB2.size)
  replace Gw := Gw.step hb3
  replace bW := bW.step hb3
  have Kg := Gg
  obtain ⟨r_freeAg, r_freeNg, r_freeCg, rfl⟩ := Memory.lopen Kg
  clear Kg
  obtain ⟨w4, hw4⟩ : ∃ W, W = (w3.alloc (.cells #[.string r_bytes, .slice r_freeAg r_freeNg r_freeCg] 29)) := ⟨_, rfl⟩
  have hb4 : Below w3.heap.size w3 w4 := by rw [hw4]; exact (Below.refl _ _).alloc (Nat.le_refl _) _
  have bG : Blk w4 w3.heap.size 29 #[.string r_bytes, .slice r_freeAg r_freeNg r_freeCg] := by rw [hw4]; exact Blk.new w3 _ _
  have HW4 := Lib.hid hw4
  clear hw4
  have lb4 := bG.lt
  have hs4 := hb4.size
  have hB4 := hB3.trans (hb4.mono hB3.size)
  replace Gw := Gw.step hb4
  replace Gg := Gg.step hb4
  replace bW := bW.step hb4
  have c3_bW0 : (w3.alloc (.cells #[.string r_bytes, .slice r_freeAg r_freeNg r_freeCg] 29)).cell? ⟨w1.heap.size, 0, none⟩ = some (.string r_bytes) := by rw [← HW4.out]; exact bW.cell 0
  have c4_bW1 : (w3.alloc (.cells #[.string r_bytes, .slice r_freeAg r_freeNg r_freeCg] 29)).cell? ⟨w1.heap.size, 1, none⟩ = some (.slice r_freeAw r_freeNw r_freeCw) := by rw [← HW4.out]; exact bW.cell 1
  have c5_bG0 : (w3.alloc (.cells #[.string r_bytes, .slice r_freeAg r_freeNg r_freeCg] 29)).cell? ⟨w3.heap.size, 0, none⟩ = some (.string r_bytes) := by rw [← HW4.out]; exact bG.cell 0
  have c6_bG1 : (w3.alloc (.cells #[.string r_bytes, .slice r_freeAg r_freeNg r_freeCg] 29)).cell? ⟨w3.heap.size, 1, none⟩ = some (.slice r_freeAg r_freeNg r_freeCg) := by rw [← HW4.out]; exact bG.cell 1
  go_wp2_with fail
  rw [← HW4.out]
  clear c3_bW0 c4_bW1 c5_bG0 c6_bG1
  clear HW4
  refine (eqMemory_all (⟨r_bytes, r_free⟩ : Memory) w4.heap.size _ _ _ (Nat.le_refl _) Gg.is Gw.is).mono ?_
  rintro e w5 ⟨rfl, hb5⟩
  have hs5 := hb5.size
  have hB5 := hB4.trans (hb5.mono hB4.size)
  replace Gw := Gw.step hb5
  replace Gg := Gg.step hb5
  replace bW := bW.step hb5
  replace bG := bG.step hb5
  have c7_bW0 : w5.cell? ⟨w1.heap.size, 0, none⟩ = some (.string r_bytes) := bW.cell 0
  have c8_bW1 : w5.cell? ⟨w1.heap.size, 1, none⟩ = some (.slice r_freeAw r_freeNw r_freeCw) := bW.cell 1
  have c9_bG0 : w5.cell? ⟨w3.heap.size, 0, none⟩ = some (.string r_bytes) := bG.cell 0
  have c10_bG1 : w5.cell? ⟨w3.heap.size, 1, none⟩ = some (.slice r_freeAg r_freeNg r_freeCg) := bG.cell 1
  go_wp2_with fail
  clear c7_bW0 c8_bW1 c9_bG0 c10_bG1
  obtain ⟨Fg, hg1, hg2, hg3⟩ := Gg
  refine (markMemory_all (⟨r_bytes, r_free⟩ : Memory) [.string r_bytes, .slice r_freeAg r_freeNg r_freeCg] Fg _ 1 (by omega) (by rw [← M.out]; omega) hg1 hg2.1 (fun b hb => Nat.lt_of_lt_of_le (hg2.2 b hb).2 hg3)).mono ?_
  rintro e w6 ⟨rfl, hgm, kf⟩
  rw [← M.out]
  have hs6 := kf.size
  have kk : Keep _ _ w5 w6 := kf.keep hg2.2
  have hB6 := hB5.trans ((kk.below (by omega)).mono (by omega))
  replace Gw := Gw.kept kk (by omega)
  replace bW := bW.keepF kf (fun hm => by have := hg2.2 _ hm; omega)
  replace bG := bG.keepF kf (fun hm => by have := hg2.2 _ hm; omega)
  have Gm : LvC w6 _ _ (markC (Memory.pd ⟨r_bytes, r_free⟩) 1) [.string r_bytes, .slice r_freeAg r_freeNg r_freeCg] := ⟨Fg, hgm, hg2, Nat.le_trans hg3 kf.size⟩
  clear kf kk hg1 hg2 hg3 hgm
  have hk1 : ¬ (1 + (m : Int)) < 0 := by omega
  have hqm : ((1 + (m : Int)) != (1 + (m : Int))) = false := by simp
  have c11_bW0 : w6.cell? ⟨w1.heap.size, 0, none⟩ = some (.string r_bytes) := bW.cell 0
  have c12_bW1 : w6.cell? ⟨w1.heap.size, 1, none⟩ = some (.slice r_freeAw r_freeNw r_freeCw) := bW.cell 1
  have c13_bG0 : w6.cell? ⟨w3.heap.size, 0, none⟩ = some (.string r_bytes) := bG.cell 0
  have c14_bG1 : w6.cell? ⟨w3.heap.size, 1, none⟩ = some (.slice r_freeAg r_freeNg r_freeCg) := bG.cell 1
  go_wp2_with fail
  clear c11_bW0 c12_bW1 c13_bG0 c14_bG1
  refine (heldMemory_all (⟨r_bytes, r_free⟩ : Memory) w6.heap.size _ _ 1 (by omega) (by rw [← M.out]; omega) (Nat.le_refl _) Gm.is).mono ?_
  rintro e w7 ⟨rfl, hb7⟩
  have hs7 := hb7.size
  have hB7 := hB6.trans (hb7.mono hB6.size)
  replace Gw := Gw.step hb7
  replace Gm := Gm.step hb7
  replace bW := bW.step hb7
  replace bG := bG.step hb7
  rw [← M.out]
  have c15_bW0 : w7.cell? ⟨w1.heap.size, 0, none⟩ = some (.string r_bytes) := bW.cell 0
  have c16_bW1 : w7.cell? ⟨w1.heap.size, 1, none⟩ = some (.slice r_freeAw r_freeNw r_freeCw) := bW.cell 1
  have c17_bG0 : w7.cell? ⟨w3.heap.size, 0, none⟩ = some (.string r_bytes) := bG.cell 0
  have c18_bG1 : w7.cell? ⟨w3.heap.size, 1, none⟩ = some (.slice r_freeAg r_freeNg r_freeCg) := bG.cell 1
  go_wp2_with fail
  clear c15_bW0 c16_bW1 c17_bG0 c18_bG1
  refine (IM'.out w7.heap.size  _ (Nat.le_refl _)).mono ?_
  rintro e w8 ⟨vh, rfl, Gh, hb8⟩
  have hs8 := hb8.size
  have hB8 := hB7.trans (hb8.mono hB7.size)
  replace Gw := Gw.step hb8
  replace Gm := Gm.step hb8
  replace bW := bW.step hb8
  replace bG := bG.step hb8
  have Kh := Gh
  obtain ⟨r_freeAh, r_freeNh, r_freeCh, rfl⟩ := Memory.lopen Kh
  clear Kh
  obtain ⟨w9, hw9⟩ : ∃ W, W = (w8.alloc (.cells #[.string r_bytes, .slice r_freeAh r_freeNh r_freeCh] 29)) := ⟨_, rfl⟩
  have hb9 : Below w8.heap.size w8 w9 := by rw [hw9]; exact (Below.refl _ _).alloc (Nat.le_refl _) _
  have bH : Blk w9 w8.heap.size 29 #[.string r_bytes, .slice r_freeAh r_freeNh r_freeCh] := by rw [hw9]; exact Blk.new w8 _ _
  have HW9 := Lib.hid hw9
  clear hw9
  have lb9 := bH.lt
  have hs9 := hb9.size
  have hB9 := hB8.trans (hb9.mono hB8.size)
  replace Gw := Gw.step hb9
  replace Gm := Gm.step hb9
  replace Gh := Gh.step hb9
  replace bW := bW.step hb9
  replace bG := bG.step hb9
  have c19_bW0 : (w8.alloc (.cells #[.string r_bytes, .slice r_freeAh r_freeNh r_freeCh] 29)).cell? ⟨w1.heap.size, 0, none⟩ = some (.string r_bytes) := by rw [← HW9.out]; exact bW.cell 0
  have c20_bW1 : (w8.alloc (.cells #[.string r_bytes, .slice r_freeAh r_freeNh r_freeCh] 29)).cell? ⟨w1.heap.size, 1, none⟩ = some (.slice r_freeAw r_freeNw r_freeCw) := by rw [← HW9.out]; exact bW.cell 1
  have c21_bG0 : (w8.alloc (.cells #[.string r_bytes, .slice r_freeAh r_freeNh r_freeCh] 29)).cell? ⟨w3.heap.size, 0, none⟩ = some (.string r_bytes) := by rw [← HW9.out]; exact bG.cell 0
  have c22_bG1 : (w8.alloc (.cells #[.string r_bytes, .slice r_freeAh r_freeNh r_freeCh] 29)).cell? ⟨w3.heap.size, 1, none⟩ = some (.slice r_freeAg r_freeNg r_freeCg) := by rw [← HW9.out]; exact bG.cell 1
  have c23_bH0 : (w8.alloc (.cells #[.string r_bytes, .slice r_freeAh r_freeNh r_freeCh] 29)).cell? ⟨w8.heap.size, 0, none⟩ = some (.string r_bytes) := by rw [← HW9.out]; exact bH.cell 0
  have c24_bH1 : (w8.alloc (.cells #[.string r_bytes, .slice r_freeAh r_freeNh r_freeCh] 29)).cell? ⟨w8.heap.size, 1, none⟩ = some (.slice r_freeAh r_freeNh r_freeCh) := by rw [← HW9.out]; exact bH.cell 1
  go_wp2_with fail
  rw [← HW9.out]
  clear c19_bW0 c20_bW1 c21_bG0 c22_bG1 c23_bH0 c24_bH1
  clear HW9
  refine (eqMemory_all (⟨r_bytes, r_free⟩ : Memory) w9.heap.size _ _ _ (Nat.le_refl _) Gh.is Gw.is).mono ?_
  rintro e w10 ⟨rfl, hb10⟩
  have hs10 := hb10.size
  have hB10 := hB9.trans (hb10.mono hB9.size)
  replace Gw := Gw.step hb10
  replace Gm := Gm.step hb10
  replace Gh := Gh.step hb10
  replace bW := bW.step hb10
  replace bG := bG.step hb10
  replace bH := bH.step hb10
  have c25_bW0 : w10.cell? ⟨w1.heap.size, 0, none⟩ = some (.string r_bytes) := bW.cell 0
  have c26_bW1 : w10.cell? ⟨w1.heap.size, 1, none⟩ = some (.slice r_freeAw r_freeNw r_freeCw) := bW.cell 1
  have c27_bG0 : w10.cell? ⟨w3.heap.size, 0, none⟩ = some (.string r_bytes) := bG.cell 0
  have c28_bG1 : w10.cell? ⟨w3.heap.size, 1, none⟩ = some (.slice r_freeAg r_freeNg r_freeCg) := bG.cell 1
  have c29_bH0 : w10.cell? ⟨w8.heap.size, 0, none⟩ = some (.string r_bytes) := bH.cell 0
  have c30_bH1 : w10.cell? ⟨w8.heap.size, 1, none⟩ = some (.slice r_freeAh r_freeNh r_freeCh) := bH.cell 1
  go_wp2_with fail
  clear c25_bW0 c26_bW1 c27_bG0 c28_bG1 c29_bH0 c30_bH1
  refine (heldMemory_all (⟨r_bytes, r_free⟩ : Memory) w10.heap.size _ _ 1 (by omega) (by rw [← M.out]; omega) (Nat.le_refl _) Gm.is).mono ?_
  rintro e w11 ⟨rfl, hb11⟩
  have hs11 := hb11.size
  have hB11 := hB10.trans (hb11.mono hB10.size)
  replace Gw := Gw.step hb11
  replace Gm := Gm.step hb11
  replace Gh := Gh.step hb11
  replace bW := bW.step hb11
  replace bG := bG.step hb11
  replace bH := bH.step hb11
  rw [← M.out]
  go_wp2_with fail
  go_ret
  exact ⟨rfl, hB11⟩

end Go.Proofs.Ytlppngpafjfjeaa
