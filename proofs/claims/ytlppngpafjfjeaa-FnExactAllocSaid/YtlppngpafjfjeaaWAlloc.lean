/-
  FnExactAlloc: the law's walk (by program: lawgen2.py).
-/
import Derived.Test.YtlppngpafjfjeaaArg
import Derived.Test.YtlppngpafjfjeaaSz
import Derived.Test.YtlppngpafjfjeaaTo
import Derived.Test.YtlppngpafjfjeaaEq
import Derived.Test.YtlppngpafjfjeaaMk
import Derived.Test.YtlppngpafjfjeaaHd
import Derived.Test.YtlppngpafjfjeaaAllW
namespace Go.Proofs.Ytlppngpafjfjeaa
open Go.RowKit
set_option linter.unusedVariables false
set_option linter.unusedSimpArgs false
set_option linter.unnecessarySimpa false
set_option maxRecDepth 100000

set_option maxHeartbeats 6400000 in
theorem walk_FnExactAlloc (w : World) (v0 : Value) (h0 : ArgMemory w v0) (z : Int) (h_z : (Lit.int .i64 z).wf = true) (al : Int) (h_al : (Lit.int .i64 al).wf = true) :
    Calls Try.prog 7 #[v0, .int .i64 z, .int .i64 al] w fun e w' => e = .returned (.bool true) ∧ Below w.heap.size w w' := by
  obtain ⟨t, cs, rfl, hwf, hr⟩ := h0
  obtain ⟨bytes, free⟩ := t
  obtain ⟨freeV, rfl, _⟩ := Memory.open_ hr
  have WF0 := Lib.hid hwf
  have R0 := Lib.hid hr
  clear hwf hr
  obtain ⟨z0, hz⟩ : ∃ z : Nat, z = PD.szL (Memory.pd ⟨bytes, free⟩) := ⟨_, rfl⟩
  have Z0 := Lib.hid hz
  clear hz
  by_cases ht0 : z0 ≤ 1048576
  case neg =>
    go_enter Try.func7, Try.ntmps7
    go_wp2_with fail
    obtain ⟨w0, hw0⟩ : ∃ W, W = (w.alloc (.cells #[.string bytes, freeV] 24)) := ⟨_, rfl⟩
    rw [← hw0]
    have hB0 : Below w.heap.size w w0 := by rw [hw0]; exact (Below.refl _ _).alloc (Nat.le_refl _) _
    have b0 : Blk w0 w.heap.size 24 #[.string bytes, freeV] := by rw [hw0]; exact (Blk.new w _ _)
    clear hw0
    have hs0 := hB0.size
    refine (szMemory_all _ w.heap.size [.string bytes, freeV] _ (1048576) (by omega) (by omega) hB0.size WF0.out (R0.out.below hB0)).mono ?_
    rintro e w1 ⟨rfl, hb1⟩
    have hs1 := hb1.size
    have hB1 := hB0.trans (hb1.mono hB0.size)
    replace b0 := b0.step hb1
    rw [← Z0.out, szLeft_no (by omega)]
    go_wp2_with fail
    go_ret
    exact ⟨rfl, hB1⟩
  have SP := specAlloc_ok (⟨bytes, free⟩ : Memory) z al WF0.out (by rw [← Z0.out]; omega) h_z h_al
  have IM := implAlloc_ok (⟨bytes, free⟩ : Memory) z al WF0.out (by rw [← Z0.out]; omega) h_z h_al
  obtain ⟨rr, hrr⟩ : ∃ r : Memory, r = (memAlloc ⟨bytes, free⟩ z al).1 := ⟨_, rfl⟩
  have hrb := memAlloc_cnt ⟨bytes, free⟩ z al (by rw [← Z0.out]; omega)
  rw [← hrr] at SP IM hrb
  clear hrr
  obtain ⟨r_bytes, r_free⟩ := rr
  obtain ⟨r1, hrr⟩ : ∃ r : Int, r = (memAlloc ⟨bytes, free⟩ z al).2.1 := ⟨_, rfl⟩
  rw [← hrr] at SP IM
  clear hrr
  have hne1 : (r1 != r1) = false := by simp
  obtain ⟨r2, hrr⟩ : ∃ r : Int, r = (memAlloc ⟨bytes, free⟩ z al).2.2 := ⟨_, rfl⟩
  rw [← hrr] at SP IM
  clear hrr
  have hne2 : (r2 != r2) = false := by simp
  obtain ⟨m, hm⟩ : ∃ m : Nat, m = rowsCnt (Memory.pd ⟨r_bytes, r_free⟩) := ⟨_, rfl⟩
  rw [← hm] at hrb
  have M := Lib.hid hm
  clear hm
  have hqb0 := rowsCnt_le _ (Memory.fit (⟨bytes, free⟩ : Memory))
  obtain ⟨q0, hq⟩ : ∃ q : Nat, q = rowsCnt (Memory.pd ⟨bytes, free⟩) := ⟨_, rfl⟩
  rw [← Z0.out] at hqb0
  rw [← hq] at hqb0
  have Q0 := Lib.hid hq
  clear hq
  have SP' := Lib.hid SP
  have IM' := Lib.hid IM
  clear SP IM
  go_enter Try.func7, Try.ntmps7
  go_wp2_with fail
  obtain ⟨w0, hw0⟩ : ∃ W, W = (w.alloc (.cells #[.string bytes, freeV] 24)) := ⟨_, rfl⟩
  rw [← hw0]
  have hB0 : Below w.heap.size w w0 := by rw [hw0]; exact (Below.refl _ _).alloc (Nat.le_refl _) _
  have b0 : Blk w0 w.heap.size 24 #[.string bytes, freeV] := by rw [hw0]; exact (Blk.new w _ _)
  clear hw0
  have hs0 := hB0.size
  refine (szMemory_all _ w.heap.size [.string bytes, freeV] _ (1048576) (by omega) (by omega) hB0.size WF0.out (R0.out.below hB0)).mono ?_
  rintro e w1 ⟨rfl, hb1⟩
  have hs1 := hb1.size
  have hB1 := hB0.trans (hb1.mono hB0.size)
  replace b0 := b0.step hb1
  rw [← Z0.out, szLeft_yes (by omega)]
  have hp0 : (0 : Int) ≤ 1048576 - (z0 : Int) := by omega
  have c1_b00 : w1.cell? ⟨w.heap.size, 0, none⟩ = some (.string bytes) := b0.cell 0
  have c2_b01 : w1.cell? ⟨w.heap.size, 1, none⟩ = some (freeV) := b0.cell 1
  go_wp2_with fail
  clear c1_b00 c2_b01
  refine (toMemory_all _ w.heap.size [.string bytes, freeV] _ hB1.size (by rw [← Z0.out]; omega) (R0.out.below hB1)).mono ?_
  rintro e w2 ⟨us0, rfl, Ls0, hb2⟩
  have hs2 := hb2.size
  have hB2 := hB1.trans (hb2.mono hB1.size)
  replace b0 := b0.step hb2
  have Ks0 := Ls0
  obtain ⟨freeAs0, freeNs0, freeCs0, rfl⟩ := Memory.lopen Ks0
  clear Ks0
  have c3_b00 : w2.cell? ⟨w.heap.size, 0, none⟩ = some (.string bytes) := b0.cell 0
  have c4_b01 : w2.cell? ⟨w.heap.size, 1, none⟩ = some (freeV) := b0.cell 1
  go_wp2_with fail
  clear c3_b00 c4_b01
  refine (SP'.out w2.heap.size [.string bytes, .slice freeAs0 freeNs0 freeCs0] _ (Nat.le_refl _) (cap_mem Ls0) Ls0.is).mono ?_
  rintro e w3 ⟨vw, rfl, Gw, hb3⟩
  have hs3 := hb3.size
  have hB3 := hB2.trans (hb3.mono hB2.size)
  replace Ls0 := Ls0.step hb3
  replace b0 := b0.step hb3
  have Kw := Gw
  obtain ⟨r_freeAw, r_freeNw, r_freeCw, rfl⟩ := Memory.lopen Kw
  clear Kw
  clear Ls0
  obtain ⟨w4, hw4⟩ : ∃ W, W = (w3.alloc (.cells #[.string r_bytes, .slice r_freeAw r_freeNw r_freeCw] 29)) := ⟨_, rfl⟩
  have hb4 : Below w3.heap.size w3 w4 := by rw [hw4]; exact (Below.refl _ _).alloc (Nat.le_refl _) _
  have bW : Blk w4 w3.heap.size 29 #[.string r_bytes, .slice r_freeAw r_freeNw r_freeCw] := by rw [hw4]; exact Blk.new w3 _ _
  have HW4 := Lib.hid hw4
  clear hw4
  have lb4 := bW.lt
  have hs4 := hb4.size
  have hB4 := hB3.trans (hb4.mono hB3.size)
  replace Gw := Gw.step hb4
  replace b0 := b0.step hb4
  have c5_b00 : (w3.alloc (.cells #[.string r_bytes, .slice r_freeAw r_freeNw r_freeCw] 29)).cell? ⟨w.heap.size, 0, none⟩ = some (.string bytes) := by rw [← HW4.out]; exact b0.cell 0
  have c6_b01 : (w3.alloc (.cells #[.string r_bytes, .slice r_freeAw r_freeNw r_freeCw] 29)).cell? ⟨w.heap.size, 1, none⟩ = some (freeV) := by rw [← HW4.out]; exact b0.cell 1
  have c7_bW0 : (w3.alloc (.cells #[.string r_bytes, .slice r_freeAw r_freeNw r_freeCw] 29)).cell? ⟨w3.heap.size, 0, none⟩ = some (.string r_bytes) := by rw [← HW4.out]; exact bW.cell 0
  have c8_bW1 : (w3.alloc (.cells #[.string r_bytes, .slice r_freeAw r_freeNw r_freeCw] 29)).cell? ⟨w3.heap.size, 1, none⟩ = some (.slice r_freeAw r_freeNw r_freeCw) := by rw [← HW4.out]; exact bW.cell 1
  go_wp2_with fail
  rw [← HW4.out]
  clear c5_b00 c6_b01 c7_bW0 c8_bW1
  clear HW4
  refine (toMemory_all _ w.heap.size [.string bytes, freeV] _ hB4.size (by rw [← Z0.out]; omega) (R0.out.below hB4)).mono ?_
  rintro e w5 ⟨ux0, rfl, Lx0, hb5⟩
  have hs5 := hb5.size
  have hB5 := hB4.trans (hb5.mono hB4.size)
  replace Gw := Gw.step hb5
  replace b0 := b0.step hb5
  replace bW := bW.step hb5
  have Kx0 := Lx0
  obtain ⟨freeAx0, freeNx0, freeCx0, rfl⟩ := Memory.lopen Kx0
  clear Kx0
  obtain ⟨w6, hw6⟩ : ∃ W, W = (w5.alloc (.cells #[.string bytes, .slice freeAx0 freeNx0 freeCx0] 29)) := ⟨_, rfl⟩
  have hb6 : Below w5.heap.size w5 w6 := by rw [hw6]; exact (Below.refl _ _).alloc (Nat.le_refl _) _
  have bX0 : Blk w6 w5.heap.size 29 #[.string bytes, .slice freeAx0 freeNx0 freeCx0] := by rw [hw6]; exact Blk.new w5 _ _
  have HW6 := Lib.hid hw6
  clear hw6
  have lb6 := bX0.lt
  have hs6 := hb6.size
  have hB6 := hB5.trans (hb6.mono hB5.size)
  replace Gw := Gw.step hb6
  replace Lx0 := Lx0.step hb6
  replace b0 := b0.step hb6
  replace bW := bW.step hb6
  have c9_b00 : (w5.alloc (.cells #[.string bytes, .slice freeAx0 freeNx0 freeCx0] 29)).cell? ⟨w.heap.size, 0, none⟩ = some (.string bytes) := by rw [← HW6.out]; exact b0.cell 0
  have c10_b01 : (w5.alloc (.cells #[.string bytes, .slice freeAx0 freeNx0 freeCx0] 29)).cell? ⟨w.heap.size, 1, none⟩ = some (freeV) := by rw [← HW6.out]; exact b0.cell 1
  have c11_bW0 : (w5.alloc (.cells #[.string bytes, .slice freeAx0 freeNx0 freeCx0] 29)).cell? ⟨w3.heap.size, 0, none⟩ = some (.string r_bytes) := by rw [← HW6.out]; exact bW.cell 0
  have c12_bW1 : (w5.alloc (.cells #[.string bytes, .slice freeAx0 freeNx0 freeCx0] 29)).cell? ⟨w3.heap.size, 1, none⟩ = some (.slice r_freeAw r_freeNw r_freeCw) := by rw [← HW6.out]; exact bW.cell 1
  have c13_bX00 : (w5.alloc (.cells #[.string bytes, .slice freeAx0 freeNx0 freeCx0] 29)).cell? ⟨w5.heap.size, 0, none⟩ = some (.string bytes) := by rw [← HW6.out]; exact bX0.cell 0
  have c14_bX01 : (w5.alloc (.cells #[.string bytes, .slice freeAx0 freeNx0 freeCx0] 29)).cell? ⟨w5.heap.size, 1, none⟩ = some (.slice freeAx0 freeNx0 freeCx0) := by rw [← HW6.out]; exact bX0.cell 1
  go_wp2_with fail
  rw [← HW6.out]
  clear c9_b00 c10_b01 c11_bW0 c12_bW1 c13_bX00 c14_bX01
  clear HW6
  refine (IM'.out w6.heap.size [.string bytes, .slice freeAx0 freeNx0 freeCx0] _ (Nat.le_refl _) (cap_mem Lx0) Lx0.is).mono ?_
  rintro e w7 ⟨vg, rfl, Gg, hb7⟩
  have hs7 := hb7.size
  have hB7 := hB6.trans (hb7.mono hB6.size)
  replace Gw := Gw.step hb7
  replace Lx0 := Lx0.step hb7
  replace b0 := b0.step hb7
  replace bW := bW.step hb7
  replace bX0 := bX0.step hb7
  have Kg := Gg
  obtain ⟨r_freeAg, r_freeNg, r_freeCg, rfl⟩ := Memory.lopen Kg
  clear Kg
  obtain ⟨w8, hw8⟩ : ∃ W, W = (w7.alloc (.cells #[.string r_bytes, .slice r_freeAg r_freeNg r_freeCg] 29)) := ⟨_, rfl⟩
  have hb8 : Below w7.heap.size w7 w8 := by rw [hw8]; exact (Below.refl _ _).alloc (Nat.le_refl _) _
  have bG : Blk w8 w7.heap.size 29 #[.string r_bytes, .slice r_freeAg r_freeNg r_freeCg] := by rw [hw8]; exact Blk.new w7 _ _
  have HW8 := Lib.hid hw8
  clear hw8
  have lb8 := bG.lt
  have hs8 := hb8.size
  have hB8 := hB7.trans (hb8.mono hB7.size)
  replace Gw := Gw.step hb8
  replace Lx0 := Lx0.step hb8
  replace Gg := Gg.step hb8
  replace b0 := b0.step hb8
  replace bW := bW.step hb8
  replace bX0 := bX0.step hb8
  have c15_b00 : (w7.alloc (.cells #[.string r_bytes, .slice r_freeAg r_freeNg r_freeCg] 29)).cell? ⟨w.heap.size, 0, none⟩ = some (.string bytes) := by rw [← HW8.out]; exact b0.cell 0
  have c16_b01 : (w7.alloc (.cells #[.string r_bytes, .slice r_freeAg r_freeNg r_freeCg] 29)).cell? ⟨w.heap.size, 1, none⟩ = some (freeV) := by rw [← HW8.out]; exact b0.cell 1
  have c17_bW0 : (w7.alloc (.cells #[.string r_bytes, .slice r_freeAg r_freeNg r_freeCg] 29)).cell? ⟨w3.heap.size, 0, none⟩ = some (.string r_bytes) := by rw [← HW8.out]; exact bW.cell 0
  have c18_bW1 : (w7.alloc (.cells #[.string r_bytes, .slice r_freeAg r_freeNg r_freeCg] 29)).cell? ⟨w3.heap.size, 1, none⟩ = some (.slice r_freeAw r_freeNw r_freeCw) := by rw [← HW8.out]; exact bW.cell 1
  have c19_bX00 : (w7.alloc (.cells #[.string r_bytes, .slice r_freeAg r_freeNg r_freeCg] 29)).cell? ⟨w5.heap.size, 0, none⟩ = some (.string bytes) := by rw [← HW8.out]; exact bX0.cell 0
  have c20_bX01 : (w7.alloc (.cells #[.string r_bytes, .slice r_freeAg r_freeNg r_freeCg] 29)).cell? ⟨w5.heap.size, 1, none⟩ = some (.slice freeAx0 freeNx0 freeCx0) := by rw [← HW8.out]; exact bX0.cell 1
  have c21_bG0 : (w7.alloc (.cells #[.string r_bytes, .slice r_freeAg r_freeNg r_freeCg] 29)).cell? ⟨w7.heap.size, 0, none⟩ = some (.string r_bytes) := by rw [← HW8.out]; exact bG.cell 0
  have c22_bG1 : (w7.alloc (.cells #[.string r_bytes, .slice r_freeAg r_freeNg r_freeCg] 29)).cell? ⟨w7.heap.size, 1, none⟩ = some (.slice r_freeAg r_freeNg r_freeCg) := by rw [← HW8.out]; exact bG.cell 1
  go_wp2_with fail
  rw [← HW8.out]
  clear c15_b00 c16_b01 c17_bW0 c18_bW1 c19_bX00 c20_bX01 c21_bG0 c22_bG1
  clear HW8
  refine (eqMemory_all (⟨r_bytes, r_free⟩ : Memory) w8.heap.size _ _ _ (Nat.le_refl _) Gg.is Gw.is).mono ?_
  rintro e w9 ⟨rfl, hb9⟩
  have hs9 := hb9.size
  have hB9 := hB8.trans (hb9.mono hB8.size)
  replace Gw := Gw.step hb9
  replace Lx0 := Lx0.step hb9
  replace Gg := Gg.step hb9
  replace b0 := b0.step hb9
  replace bW := bW.step hb9
  replace bX0 := bX0.step hb9
  replace bG := bG.step hb9
  have c23_b00 : w9.cell? ⟨w.heap.size, 0, none⟩ = some (.string bytes) := b0.cell 0
  have c24_b01 : w9.cell? ⟨w.heap.size, 1, none⟩ = some (freeV) := b0.cell 1
  have c25_bW0 : w9.cell? ⟨w3.heap.size, 0, none⟩ = some (.string r_bytes) := bW.cell 0
  have c26_bW1 : w9.cell? ⟨w3.heap.size, 1, none⟩ = some (.slice r_freeAw r_freeNw r_freeCw) := bW.cell 1
  have c27_bX00 : w9.cell? ⟨w5.heap.size, 0, none⟩ = some (.string bytes) := bX0.cell 0
  have c28_bX01 : w9.cell? ⟨w5.heap.size, 1, none⟩ = some (.slice freeAx0 freeNx0 freeCx0) := bX0.cell 1
  have c29_bG0 : w9.cell? ⟨w7.heap.size, 0, none⟩ = some (.string r_bytes) := bG.cell 0
  have c30_bG1 : w9.cell? ⟨w7.heap.size, 1, none⟩ = some (.slice r_freeAg r_freeNg r_freeCg) := bG.cell 1
  go_wp2_with fail
  clear c23_b00 c24_b01 c25_bW0 c26_bW1 c27_bX00 c28_bX01 c29_bG0 c30_bG1
  have c31_b00 : w9.cell? ⟨w.heap.size, 0, none⟩ = some (.string bytes) := b0.cell 0
  have c32_b01 : w9.cell? ⟨w.heap.size, 1, none⟩ = some (freeV) := b0.cell 1
  have c33_bX00 : w9.cell? ⟨w5.heap.size, 0, none⟩ = some (.string bytes) := bX0.cell 0
  have c34_bX01 : w9.cell? ⟨w5.heap.size, 1, none⟩ = some (.slice freeAx0 freeNx0 freeCx0) := bX0.cell 1
  have hA := b0.lt
  have hX := bX0.lt
  have TC := Lib.hid (toMemory_all _ w.heap.size [.string bytes, freeV] w9.drew hB9.size (by rw [← Z0.out]; omega) (by exact R0.out.below hB9.drew))
  go_region_held3 (fun w' => w'.cell? ⟨w.heap.size, 0, none⟩ = some (.string bytes) ∧ w'.cell? ⟨w.heap.size, 1, none⟩ = some (freeV) ∧ w'.cell? ⟨w5.heap.size, 0, none⟩ = some (.string bytes) ∧ w'.cell? ⟨w5.heap.size, 1, none⟩ = some (.slice freeAx0 freeNx0 freeCx0))
    (first | go_keep | exact ⟨(hby.cell (p := ⟨w.heap.size, 0, none⟩) hA).trans c31_b00, (hby.cell (p := ⟨w.heap.size, 1, none⟩) hA).trans c32_b01, (hby.cell (p := ⟨w5.heap.size, 0, none⟩) hX).trans c33_bX00, (hby.cell (p := ⟨w5.heap.size, 1, none⟩) hX).trans c34_bX01⟩ | exact ⟨(hbyz.cell (p := ⟨w.heap.size, 0, none⟩) hA).trans c31_b00, (hbyz.cell (p := ⟨w.heap.size, 1, none⟩) hA).trans c32_b01, (hbyz.cell (p := ⟨w5.heap.size, 0, none⟩) hX).trans c33_bX00, (hbyz.cell (p := ⟨w5.heap.size, 1, none⟩) hX).trans c34_bX01⟩)
    (first | (go_at_call 14; refine TC.out.mono ?_; rintro e wy ⟨uy, rfl, Ly, hby⟩; have Ky := Ly; obtain ⟨freeAy, freeNy, freeCy, rfl⟩ := Memory.lopen Ky; have Lxy := Lx0.step ((Below.refl w9.heap.size w9).drew.trans hby)) | (go_at_call 16; refine (eqMemory_all _ wy.heap.size [.string bytes, .slice freeAx0 freeNx0 freeCx0] [.string bytes, .slice freeAy freeNy freeCy] _ (Nat.le_refl _) (by exact Lxy.is) (by exact Ly.is)).mono ?_; rintro e w10 ⟨rfl, hbz⟩; have hbyz : Below w9.heap.size w9 w10 := ((Below.refl _ _).drew.trans hby).trans (hbz.mono hby.size)))
  have hb10 := hbyz
  have hs10 := hb10.size
  have hB10 := hB9.trans (hb10.mono hB9.size)
  replace Gw := Gw.step hb10
  replace Lx0 := Lx0.step hb10
  replace Gg := Gg.step hb10
  replace b0 := b0.step hb10
  replace bW := bW.step hb10
  replace bX0 := bX0.step hb10
  replace bG := bG.step hb10
  clear hbyz hbz hby Lxy Ly TC hA hX
  clear c31_b00 c32_b01 c33_bX00 c34_bX01
  have c35_b00 : w10.cell? ⟨w.heap.size, 0, none⟩ = some (.string bytes) := b0.cell 0
  have c36_b01 : w10.cell? ⟨w.heap.size, 1, none⟩ = some (freeV) := b0.cell 1
  have c37_bW0 : w10.cell? ⟨w3.heap.size, 0, none⟩ = some (.string r_bytes) := bW.cell 0
  have c38_bW1 : w10.cell? ⟨w3.heap.size, 1, none⟩ = some (.slice r_freeAw r_freeNw r_freeCw) := bW.cell 1
  have c39_bX00 : w10.cell? ⟨w5.heap.size, 0, none⟩ = some (.string bytes) := bX0.cell 0
  have c40_bX01 : w10.cell? ⟨w5.heap.size, 1, none⟩ = some (.slice freeAx0 freeNx0 freeCx0) := bX0.cell 1
  have c41_bG0 : w10.cell? ⟨w7.heap.size, 0, none⟩ = some (.string r_bytes) := bG.cell 0
  have c42_bG1 : w10.cell? ⟨w7.heap.size, 1, none⟩ = some (.slice r_freeAg r_freeNg r_freeCg) := bG.cell 1
  go_wp2_with fail
  clear c35_b00 c36_b01 c37_bW0 c38_bW1 c39_bX00 c40_bX01 c41_bG0 c42_bG1
  obtain ⟨Fx, hx1, hx2, hx3⟩ := Lx0
  refine (markMemory_all _ [.string bytes, .slice freeAx0 freeNx0 freeCx0] Fx _ (1) (by omega) (by rw [← Q0.out]; omega) hx1 hx2.1 (fun b hb => Nat.lt_of_lt_of_le (hx2.2 b hb).2 hx3)).mono ?_
  rintro e w11 ⟨rfl, _, kf⟩
  rw [← Q0.out]
  have kk : Keep _ _ w10 w11 := kf.keep hx2.2
  have hs11 := kk.size
  have hB11 := hB10.trans ((kk.below (by omega)).mono (by omega))
  replace Gw := Gw.kept kk (by omega)
  replace Gg := Gg.kept kk (by omega)
  replace b0 := b0.keepF kf (fun hm => by have := hx2.2 _ hm; omega)
  replace bW := bW.keepF kf (fun hm => by have := hx2.2 _ hm; omega)
  replace bX0 := bX0.keepF kf (fun hm => by have := hx2.2 _ hm; omega)
  replace bG := bG.keepF kf (fun hm => by have := hx2.2 _ hm; omega)
  clear kf kk hx1 hx2 hx3
  have hk0 : ¬ (1 + (q0 : Int)) < 0 := by omega
  have c43_b00 : w11.cell? ⟨w.heap.size, 0, none⟩ = some (.string bytes) := b0.cell 0
  have c44_b01 : w11.cell? ⟨w.heap.size, 1, none⟩ = some (freeV) := b0.cell 1
  have c45_bW0 : w11.cell? ⟨w3.heap.size, 0, none⟩ = some (.string r_bytes) := bW.cell 0
  have c46_bW1 : w11.cell? ⟨w3.heap.size, 1, none⟩ = some (.slice r_freeAw r_freeNw r_freeCw) := bW.cell 1
  have c47_bX00 : w11.cell? ⟨w5.heap.size, 0, none⟩ = some (.string bytes) := bX0.cell 0
  have c48_bX01 : w11.cell? ⟨w5.heap.size, 1, none⟩ = some (.slice freeAx0 freeNx0 freeCx0) := bX0.cell 1
  have c49_bG0 : w11.cell? ⟨w7.heap.size, 0, none⟩ = some (.string r_bytes) := bG.cell 0
  have c50_bG1 : w11.cell? ⟨w7.heap.size, 1, none⟩ = some (.slice r_freeAg r_freeNg r_freeCg) := bG.cell 1
  go_wp2_with fail
  clear c43_b00 c44_b01 c45_bW0 c46_bW1 c47_bX00 c48_bX01 c49_bG0 c50_bG1
  refine (eqMemory_all (⟨r_bytes, r_free⟩ : Memory) w11.heap.size _ _ _ (Nat.le_refl _) Gg.is Gw.is).mono ?_
  rintro e w12 ⟨rfl, hb12⟩
  have hs12 := hb12.size
  have hB12 := hB11.trans (hb12.mono hB11.size)
  replace Gw := Gw.step hb12
  replace Gg := Gg.step hb12
  replace b0 := b0.step hb12
  replace bW := bW.step hb12
  replace bX0 := bX0.step hb12
  replace bG := bG.step hb12
  have c51_b00 : w12.cell? ⟨w.heap.size, 0, none⟩ = some (.string bytes) := b0.cell 0
  have c52_b01 : w12.cell? ⟨w.heap.size, 1, none⟩ = some (freeV) := b0.cell 1
  have c53_bW0 : w12.cell? ⟨w3.heap.size, 0, none⟩ = some (.string r_bytes) := bW.cell 0
  have c54_bW1 : w12.cell? ⟨w3.heap.size, 1, none⟩ = some (.slice r_freeAw r_freeNw r_freeCw) := bW.cell 1
  have c55_bX00 : w12.cell? ⟨w5.heap.size, 0, none⟩ = some (.string bytes) := bX0.cell 0
  have c56_bX01 : w12.cell? ⟨w5.heap.size, 1, none⟩ = some (.slice freeAx0 freeNx0 freeCx0) := bX0.cell 1
  have c57_bG0 : w12.cell? ⟨w7.heap.size, 0, none⟩ = some (.string r_bytes) := bG.cell 0
  have c58_bG1 : w12.cell? ⟨w7.heap.size, 1, none⟩ = some (.slice r_freeAg r_freeNg r_freeCg) := bG.cell 1
  go_wp2_with fail
  clear c51_b00 c52_b01 c53_bW0 c54_bW1 c55_bX00 c56_bX01 c57_bG0 c58_bG1
  obtain ⟨Fg, hg1, hg2, hg3⟩ := Gg
  refine (markMemory_all (⟨r_bytes, r_free⟩ : Memory) [.string r_bytes, .slice r_freeAg r_freeNg r_freeCg] Fg _ 1 (by omega) (by rw [← M.out]; omega) hg1 hg2.1 (fun b hb => Nat.lt_of_lt_of_le (hg2.2 b hb).2 hg3)).mono ?_
  rintro e w13 ⟨rfl, hgm, kf⟩
  rw [← M.out]
  have hs13 := kf.size
  have kk : Keep _ _ w12 w13 := kf.keep hg2.2
  have hB13 := hB12.trans ((kk.below (by omega)).mono (by omega))
  replace Gw := Gw.kept kk (by omega)
  replace b0 := b0.keepF kf (fun hm => by have := hg2.2 _ hm; omega)
  replace bW := bW.keepF kf (fun hm => by have := hg2.2 _ hm; omega)
  replace bX0 := bX0.keepF kf (fun hm => by have := hg2.2 _ hm; omega)
  replace bG := bG.keepF kf (fun hm => by have := hg2.2 _ hm; omega)
  have Gm : LvC w13 _ _ (markC (Memory.pd ⟨r_bytes, r_free⟩) 1) [.string r_bytes, .slice r_freeAg r_freeNg r_freeCg] := ⟨Fg, hgm, hg2, Nat.le_trans hg3 kf.size⟩
  clear kf kk hg1 hg2 hg3 hgm
  have hk1 : ¬ (1 + (m : Int)) < 0 := by omega
  have hqm : ((1 + (m : Int)) != (1 + (m : Int))) = false := by simp
  have c59_b00 : w13.cell? ⟨w.heap.size, 0, none⟩ = some (.string bytes) := b0.cell 0
  have c60_b01 : w13.cell? ⟨w.heap.size, 1, none⟩ = some (freeV) := b0.cell 1
  have c61_bW0 : w13.cell? ⟨w3.heap.size, 0, none⟩ = some (.string r_bytes) := bW.cell 0
  have c62_bW1 : w13.cell? ⟨w3.heap.size, 1, none⟩ = some (.slice r_freeAw r_freeNw r_freeCw) := bW.cell 1
  have c63_bX00 : w13.cell? ⟨w5.heap.size, 0, none⟩ = some (.string bytes) := bX0.cell 0
  have c64_bX01 : w13.cell? ⟨w5.heap.size, 1, none⟩ = some (.slice freeAx0 freeNx0 freeCx0) := bX0.cell 1
  have c65_bG0 : w13.cell? ⟨w7.heap.size, 0, none⟩ = some (.string r_bytes) := bG.cell 0
  have c66_bG1 : w13.cell? ⟨w7.heap.size, 1, none⟩ = some (.slice r_freeAg r_freeNg r_freeCg) := bG.cell 1
  go_wp2_with fail
  clear c59_b00 c60_b01 c61_bW0 c62_bW1 c63_bX00 c64_bX01 c65_bG0 c66_bG1
  refine (heldMemory_all (⟨r_bytes, r_free⟩ : Memory) w13.heap.size _ _ 1 (by omega) (by rw [← M.out]; omega) (Nat.le_refl _) Gm.is).mono ?_
  rintro e w14 ⟨rfl, hb14⟩
  have hs14 := hb14.size
  have hB14 := hB13.trans (hb14.mono hB13.size)
  replace Gw := Gw.step hb14
  replace Gm := Gm.step hb14
  replace b0 := b0.step hb14
  replace bW := bW.step hb14
  replace bX0 := bX0.step hb14
  replace bG := bG.step hb14
  rw [← M.out]
  have c67_b00 : w14.cell? ⟨w.heap.size, 0, none⟩ = some (.string bytes) := b0.cell 0
  have c68_b01 : w14.cell? ⟨w.heap.size, 1, none⟩ = some (freeV) := b0.cell 1
  have c69_bW0 : w14.cell? ⟨w3.heap.size, 0, none⟩ = some (.string r_bytes) := bW.cell 0
  have c70_bW1 : w14.cell? ⟨w3.heap.size, 1, none⟩ = some (.slice r_freeAw r_freeNw r_freeCw) := bW.cell 1
  have c71_bX00 : w14.cell? ⟨w5.heap.size, 0, none⟩ = some (.string bytes) := bX0.cell 0
  have c72_bX01 : w14.cell? ⟨w5.heap.size, 1, none⟩ = some (.slice freeAx0 freeNx0 freeCx0) := bX0.cell 1
  have c73_bG0 : w14.cell? ⟨w7.heap.size, 0, none⟩ = some (.string r_bytes) := bG.cell 0
  have c74_bG1 : w14.cell? ⟨w7.heap.size, 1, none⟩ = some (.slice r_freeAg r_freeNg r_freeCg) := bG.cell 1
  go_wp2_with fail
  clear c67_b00 c68_b01 c69_bW0 c70_bW1 c71_bX00 c72_bX01 c73_bG0 c74_bG1
  refine (toMemory_all _ w.heap.size [.string bytes, freeV] _ hB14.size (by rw [← Z0.out]; omega) (R0.out.below hB14)).mono ?_
  rintro e w15 ⟨uh0, rfl, Lh0, hb15⟩
  have hs15 := hb15.size
  have hB15 := hB14.trans (hb15.mono hB14.size)
  replace Gw := Gw.step hb15
  replace Gm := Gm.step hb15
  replace b0 := b0.step hb15
  replace bW := bW.step hb15
  replace bX0 := bX0.step hb15
  replace bG := bG.step hb15
  have Kh0 := Lh0
  obtain ⟨freeAh0, freeNh0, freeCh0, rfl⟩ := Memory.lopen Kh0
  clear Kh0
  have c75_b00 : w15.cell? ⟨w.heap.size, 0, none⟩ = some (.string bytes) := b0.cell 0
  have c76_b01 : w15.cell? ⟨w.heap.size, 1, none⟩ = some (freeV) := b0.cell 1
  have c77_bW0 : w15.cell? ⟨w3.heap.size, 0, none⟩ = some (.string r_bytes) := bW.cell 0
  have c78_bW1 : w15.cell? ⟨w3.heap.size, 1, none⟩ = some (.slice r_freeAw r_freeNw r_freeCw) := bW.cell 1
  have c79_bX00 : w15.cell? ⟨w5.heap.size, 0, none⟩ = some (.string bytes) := bX0.cell 0
  have c80_bX01 : w15.cell? ⟨w5.heap.size, 1, none⟩ = some (.slice freeAx0 freeNx0 freeCx0) := bX0.cell 1
  have c81_bG0 : w15.cell? ⟨w7.heap.size, 0, none⟩ = some (.string r_bytes) := bG.cell 0
  have c82_bG1 : w15.cell? ⟨w7.heap.size, 1, none⟩ = some (.slice r_freeAg r_freeNg r_freeCg) := bG.cell 1
  go_wp2_with fail
  clear c75_b00 c76_b01 c77_bW0 c78_bW1 c79_bX00 c80_bX01 c81_bG0 c82_bG1
  refine (IM'.out w15.heap.size [.string bytes, .slice freeAh0 freeNh0 freeCh0] _ (Nat.le_refl _) (cap_mem Lh0) Lh0.is).mono ?_
  rintro e w16 ⟨vh, rfl, Gh, hb16⟩
  have hs16 := hb16.size
  have hB16 := hB15.trans (hb16.mono hB15.size)
  replace Gw := Gw.step hb16
  replace Gm := Gm.step hb16
  replace Lh0 := Lh0.step hb16
  replace b0 := b0.step hb16
  replace bW := bW.step hb16
  replace bX0 := bX0.step hb16
  replace bG := bG.step hb16
  have Kh := Gh
  obtain ⟨r_freeAh, r_freeNh, r_freeCh, rfl⟩ := Memory.lopen Kh
  clear Kh
  clear Lh0
  obtain ⟨w17, hw17⟩ : ∃ W, W = (w16.alloc (.cells #[.string r_bytes, .slice r_freeAh r_freeNh r_freeCh] 29)) := ⟨_, rfl⟩
  have hb17 : Below w16.heap.size w16 w17 := by rw [hw17]; exact (Below.refl _ _).alloc (Nat.le_refl _) _
  have bH : Blk w17 w16.heap.size 29 #[.string r_bytes, .slice r_freeAh r_freeNh r_freeCh] := by rw [hw17]; exact Blk.new w16 _ _
  have HW17 := Lib.hid hw17
  clear hw17
  have lb17 := bH.lt
  have hs17 := hb17.size
  have hB17 := hB16.trans (hb17.mono hB16.size)
  replace Gw := Gw.step hb17
  replace Gm := Gm.step hb17
  replace Gh := Gh.step hb17
  replace b0 := b0.step hb17
  replace bW := bW.step hb17
  replace bX0 := bX0.step hb17
  replace bG := bG.step hb17
  have c83_b00 : (w16.alloc (.cells #[.string r_bytes, .slice r_freeAh r_freeNh r_freeCh] 29)).cell? ⟨w.heap.size, 0, none⟩ = some (.string bytes) := by rw [← HW17.out]; exact b0.cell 0
  have c84_b01 : (w16.alloc (.cells #[.string r_bytes, .slice r_freeAh r_freeNh r_freeCh] 29)).cell? ⟨w.heap.size, 1, none⟩ = some (freeV) := by rw [← HW17.out]; exact b0.cell 1
  have c85_bW0 : (w16.alloc (.cells #[.string r_bytes, .slice r_freeAh r_freeNh r_freeCh] 29)).cell? ⟨w3.heap.size, 0, none⟩ = some (.string r_bytes) := by rw [← HW17.out]; exact bW.cell 0
  have c86_bW1 : (w16.alloc (.cells #[.string r_bytes, .slice r_freeAh r_freeNh r_freeCh] 29)).cell? ⟨w3.heap.size, 1, none⟩ = some (.slice r_freeAw r_freeNw r_freeCw) := by rw [← HW17.out]; exact bW.cell 1
  have c87_bX00 : (w16.alloc (.cells #[.string r_bytes, .slice r_freeAh r_freeNh r_freeCh] 29)).cell? ⟨w5.heap.size, 0, none⟩ = some (.string bytes) := by rw [← HW17.out]; exact bX0.cell 0
  have c88_bX01 : (w16.alloc (.cells #[.string r_bytes, .slice r_freeAh r_freeNh r_freeCh] 29)).cell? ⟨w5.heap.size, 1, none⟩ = some (.slice freeAx0 freeNx0 freeCx0) := by rw [← HW17.out]; exact bX0.cell 1
  have c89_bG0 : (w16.alloc (.cells #[.string r_bytes, .slice r_freeAh r_freeNh r_freeCh] 29)).cell? ⟨w7.heap.size, 0, none⟩ = some (.string r_bytes) := by rw [← HW17.out]; exact bG.cell 0
  have c90_bG1 : (w16.alloc (.cells #[.string r_bytes, .slice r_freeAh r_freeNh r_freeCh] 29)).cell? ⟨w7.heap.size, 1, none⟩ = some (.slice r_freeAg r_freeNg r_freeCg) := by rw [← HW17.out]; exact bG.cell 1
  have c91_bH0 : (w16.alloc (.cells #[.string r_bytes, .slice r_freeAh r_freeNh r_freeCh] 29)).cell? ⟨w16.heap.size, 0, none⟩ = some (.string r_bytes) := by rw [← HW17.out]; exact bH.cell 0
  have c92_bH1 : (w16.alloc (.cells #[.string r_bytes, .slice r_freeAh r_freeNh r_freeCh] 29)).cell? ⟨w16.heap.size, 1, none⟩ = some (.slice r_freeAh r_freeNh r_freeCh) := by rw [← HW17.out]; exact bH.cell 1
  go_wp2_with fail
  rw [← HW17.out]
  clear c83_b00 c84_b01 c85_bW0 c86_bW1 c87_bX00 c88_bX01 c89_bG0 c90_bG1 c91_bH0 c92_bH1
  clear HW17
  refine (eqMemory_all (⟨r_bytes, r_free⟩ : Memory) w17.heap.size _ _ _ (Nat.le_refl _) Gh.is Gw.is).mono ?_
  rintro e w18 ⟨rfl, hb18⟩
  have hs18 := hb18.size
  have hB18 := hB17.trans (hb18.mono hB17.size)
  replace Gw := Gw.step hb18
  replace Gm := Gm.step hb18
  replace Gh := Gh.step hb18
  replace b0 := b0.step hb18
  replace bW := bW.step hb18
  replace bX0 := bX0.step hb18
  replace bG := bG.step hb18
  replace bH := bH.step hb18
  have c93_b00 : w18.cell? ⟨w.heap.size, 0, none⟩ = some (.string bytes) := b0.cell 0
  have c94_b01 : w18.cell? ⟨w.heap.size, 1, none⟩ = some (freeV) := b0.cell 1
  have c95_bW0 : w18.cell? ⟨w3.heap.size, 0, none⟩ = some (.string r_bytes) := bW.cell 0
  have c96_bW1 : w18.cell? ⟨w3.heap.size, 1, none⟩ = some (.slice r_freeAw r_freeNw r_freeCw) := bW.cell 1
  have c97_bX00 : w18.cell? ⟨w5.heap.size, 0, none⟩ = some (.string bytes) := bX0.cell 0
  have c98_bX01 : w18.cell? ⟨w5.heap.size, 1, none⟩ = some (.slice freeAx0 freeNx0 freeCx0) := bX0.cell 1
  have c99_bG0 : w18.cell? ⟨w7.heap.size, 0, none⟩ = some (.string r_bytes) := bG.cell 0
  have c100_bG1 : w18.cell? ⟨w7.heap.size, 1, none⟩ = some (.slice r_freeAg r_freeNg r_freeCg) := bG.cell 1
  have c101_bH0 : w18.cell? ⟨w16.heap.size, 0, none⟩ = some (.string r_bytes) := bH.cell 0
  have c102_bH1 : w18.cell? ⟨w16.heap.size, 1, none⟩ = some (.slice r_freeAh r_freeNh r_freeCh) := bH.cell 1
  go_wp2_with fail
  clear c93_b00 c94_b01 c95_bW0 c96_bW1 c97_bX00 c98_bX01 c99_bG0 c100_bG1 c101_bH0 c102_bH1
  refine (heldMemory_all (⟨r_bytes, r_free⟩ : Memory) w18.heap.size _ _ 1 (by omega) (by rw [← M.out]; omega) (Nat.le_refl _) Gm.is).mono ?_
  rintro e w19 ⟨rfl, hb19⟩
  have hs19 := hb19.size
  have hB19 := hB18.trans (hb19.mono hB18.size)
  replace Gw := Gw.step hb19
  replace Gm := Gm.step hb19
  replace Gh := Gh.step hb19
  replace b0 := b0.step hb19
  replace bW := bW.step hb19
  replace bX0 := bX0.step hb19
  replace bG := bG.step hb19
  replace bH := bH.step hb19
  rw [← M.out]
  go_wp2_with fail
  go_ret
  exact ⟨rfl, hB19⟩

end Go.Proofs.Ytlppngpafjfjeaa
