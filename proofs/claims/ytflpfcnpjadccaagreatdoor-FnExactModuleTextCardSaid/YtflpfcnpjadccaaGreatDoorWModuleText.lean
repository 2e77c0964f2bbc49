/-
  FnExactModuleText: the law's walk (by program: lawgen2.py).
-/
import Derived.Test.YtflpfcnpjadccaaGreatDoorArg
import Derived.Test.YtflpfcnpjadccaaGreatDoorSz
import Derived.Test.YtflpfcnpjadccaaGreatDoorTo
import Derived.Test.YtflpfcnpjadccaaGreatDoorEq
import Derived.Test.YtflpfcnpjadccaaGreatDoorMtI
namespace Go.Proofs.YtflpfcnpjadccaaGreatDoor
open Go.RowKit
set_option linter.unusedVariables false
set_option linter.unusedSimpArgs false
set_option linter.unnecessarySimpa false
set_option maxRecDepth 100000

set_option maxHeartbeats 6400000 in
theorem walk_FnExactModuleText (w : World) (hT : TabX w) (v0 : Value) (h0 : ArgModule w v0) :
    Calls Tryz.prog 3 #[v0] w fun e w' => e = .returned (.bool true) ∧ Below w.heap.size w w' := by
  obtain ⟨t, cs, rfl, hwf, hr⟩ := h0
  obtain ⟨pages, imports, cores⟩ := t
  obtain ⟨importsV, coresV, rfl, _, _⟩ := Mod.open_ hr
  have WF0 := Lib.hid hwf
  have R0 := Lib.hid hr
  clear hwf hr
  obtain ⟨z0, hz⟩ : ∃ z : Nat, z = PD.szL (Mod.pd ⟨pages, imports, cores⟩) := ⟨_, rfl⟩
  have Z0 := Lib.hid hz
  clear hz
  by_cases ht0 : z0 ≤ 1048576
  case neg =>
    go_enter Tryz.func3, Tryz.ntmps3
    go_wp2_with fail
    obtain ⟨w0, hw0⟩ : ∃ W, W = (w.alloc (.cells #[.int .i64 pages, importsV, coresV] 25)) := ⟨_, rfl⟩
    rw [← hw0]
    have hB0 : Below w.heap.size w w0 := by rw [hw0]; exact (Below.refl _ _).alloc (Nat.le_refl _) _
    have b0 : Blk w0 w.heap.size 25 #[.int .i64 pages, importsV, coresV] := by rw [hw0]; exact (Blk.new w _ _)
    clear hw0
    have hs0 := hB0.size
    have hl0 := b0.lt
    refine (szModule_all _ w.heap.size [.int .i64 pages, importsV, coresV] _ (1048576) (by omega) (by omega) hB0.size WF0.out (R0.out.below hB0)).mono ?_
    rintro e w1 ⟨rfl, hb1⟩
    have hs1 := hb1.size
    have hB1 := hB0.trans (hb1.mono hB0.size)
    replace b0 := b0.step hb1
    rw [← Z0.out, szLeft_no (by omega)]
    go_wp2_with fail
    go_ret
    exact ⟨rfl, hB1⟩
  have SP := specModuleText_ok (⟨pages, imports, cores⟩ : Mod) WF0.out (by rw [← Z0.out]; omega)
  have IM := implModuleText_ok (⟨pages, imports, cores⟩ : Mod) WF0.out (by rw [← Z0.out]; omega)
  obtain ⟨r0, hrr⟩ : ∃ r : ByteArray, r = modTR ⟨pages, imports, cores⟩ := ⟨_, rfl⟩
  rw [← hrr] at SP IM
  clear hrr
  have SP' := Lib.hid SP
  have IM' := Lib.hid IM
  clear SP IM
  go_enter Tryz.func3, Tryz.ntmps3
  go_wp2_with fail
  obtain ⟨w0, hw0⟩ : ∃ W, W = (w.alloc (.cells #[.int .i64 pages, importsV, coresV] 25)) := ⟨_, rfl⟩
  rw [← hw0]
  have hB0 : Below w.heap.size w w0 := by rw [hw0]; exact (Below.refl _ _).alloc (Nat.le_refl _) _
  have b0 : Blk w0 w.heap.size 25 #[.int .i64 pages, importsV, coresV] := by rw [hw0]; exact (Blk.new w _ _)
  clear hw0
  have hs0 := hB0.size
  have hl0 := b0.lt
  refine (szModule_all _ w.heap.size [.int .i64 pages, importsV, coresV] _ (1048576) (by omega) (by omega) hB0.size WF0.out (R0.out.below hB0)).mono ?_
  rintro e w1 ⟨rfl, hb1⟩
  have hs1 := hb1.size
  have hB1 := hB0.trans (hb1.mono hB0.size)
  replace b0 := b0.step hb1
  rw [← Z0.out, szLeft_yes (by omega)]
  have hp0 : (0 : Int) ≤ 1048576 - (z0 : Int) := by omega
  have c1_b00 : w1.cell? ⟨w.heap.size, 0, none⟩ = some (.int .i64 pages) := b0.cell 0
  have c2_b01 : w1.cell? ⟨w.heap.size, 1, none⟩ = some (importsV) := b0.cell 1
  have c3_b02 : w1.cell? ⟨w.heap.size, 2, none⟩ = some (coresV) := b0.cell 2
  go_wp2_with fail
  clear c1_b00 c2_b01 c3_b02
  refine (toModule_all _ w.heap.size [.int .i64 pages, importsV, coresV] _ hB1.size (by rw [← Z0.out]; omega) (R0.out.below hB1)).mono ?_
  rintro e w2 ⟨us0, rfl, Ls0, hb2⟩
  have hs2 := hb2.size
  have hB2 := hB1.trans (hb2.mono hB1.size)
  replace b0 := b0.step hb2
  have Ks0 := Ls0
  obtain ⟨importsAs0, importsNs0, importsCs0, coresAs0, coresNs0, coresCs0, rfl⟩ := Mod.lopen Ks0
  clear Ks0
  have c4_b00 : w2.cell? ⟨w.heap.size, 0, none⟩ = some (.int .i64 pages) := b0.cell 0
  have c5_b01 : w2.cell? ⟨w.heap.size, 1, none⟩ = some (importsV) := b0.cell 1
  have c6_b02 : w2.cell? ⟨w.heap.size, 2, none⟩ = some (coresV) := b0.cell 2
  go_wp2_with fail
  clear c4_b00 c5_b01 c6_b02
  refine (SP'.out w2.heap.size [.int .i64 pages, .slice importsAs0 importsNs0 importsCs0, .slice coresAs0 coresNs0 coresCs0] _ (Nat.le_refl _) (hT.below hB2) (cap_mod Ls0) Ls0.is).mono ?_
  rintro e w3 ⟨rfl, hb3⟩
  have hs3 := hb3.size
  have hB3 := hB2.trans (hb3.mono hB2.size)
  replace Ls0 := Ls0.step hb3
  replace b0 := b0.step hb3
  clear Ls0
  have c7_b00 : w3.cell? ⟨w.heap.size, 0, none⟩ = some (.int .i64 pages) := b0.cell 0
  have c8_b01 : w3.cell? ⟨w.heap.size, 1, none⟩ = some (importsV) := b0.cell 1
  have c9_b02 : w3.cell? ⟨w.heap.size, 2, none⟩ = some (coresV) := b0.cell 2
  go_wp2_with fail
  clear c7_b00 c8_b01 c9_b02
  refine (toModule_all _ w.heap.size [.int .i64 pages, importsV, coresV] _ hB3.size (by rw [← Z0.out]; omega) (R0.out.below hB3)).mono ?_
  rintro e w4 ⟨ux0, rfl, Lx0, hb4⟩
  have hs4 := hb4.size
  have hB4 := hB3.trans (hb4.mono hB3.size)
  replace b0 := b0.step hb4
  have Kx0 := Lx0
  obtain ⟨importsAx0, importsNx0, importsCx0, coresAx0, coresNx0, coresCx0, rfl⟩ := Mod.lopen Kx0
  clear Kx0
  obtain ⟨w5, hw5⟩ : ∃ W, W = (w4.alloc (.cells #[.int .i64 pages, .slice importsAx0 importsNx0 importsCx0, .slice coresAx0 coresNx0 coresCx0] 31)) := ⟨_, rfl⟩
  have hb5 : Below w4.heap.size w4 w5 := by rw [hw5]; exact (Below.refl _ _).alloc (Nat.le_refl _) _
  have bX0 : Blk w5 w4.heap.size 31 #[.int .i64 pages, .slice importsAx0 importsNx0 importsCx0, .slice coresAx0 coresNx0 coresCx0] := by rw [hw5]; exact Blk.new w4 _ _
  have HW5 := Lib.hid hw5
  clear hw5
  have lb5 := bX0.lt
  have hs5 := hb5.size
  have hB5 := hB4.trans (hb5.mono hB4.size)
  replace Lx0 := Lx0.step hb5
  replace b0 := b0.step hb5
  have c10_b00 : (w4.alloc (.cells #[.int .i64 pages, .slice importsAx0 importsNx0 importsCx0, .slice coresAx0 coresNx0 coresCx0] 31)).cell? ⟨w.heap.size, 0, none⟩ = some (.int .i64 pages) := by rw [← HW5.out]; exact b0.cell 0
  have c11_b01 : (w4.alloc (.cells #[.int .i64 pages, .slice importsAx0 importsNx0 importsCx0, .slice coresAx0 coresNx0 coresCx0] 31)).cell? ⟨w.heap.size, 1, none⟩ = some (importsV) := by rw [← HW5.out]; exact b0.cell 1
  have c12_b02 : (w4.alloc (.cells #[.int .i64 pages, .slice importsAx0 importsNx0 importsCx0, .slice coresAx0 coresNx0 coresCx0] 31)).cell? ⟨w.heap.size, 2, none⟩ = some (coresV) := by rw [← HW5.out]; exact b0.cell 2
  have c13_bX00 : (w4.alloc (.cells #[.int .i64 pages, .slice importsAx0 importsNx0 importsCx0, .slice coresAx0 coresNx0 coresCx0] 31)).cell? ⟨w4.heap.size, 0, none⟩ = some (.int .i64 pages) := by rw [← HW5.out]; exact bX0.cell 0
  have c14_bX01 : (w4.alloc (.cells #[.int .i64 pages, .slice importsAx0 importsNx0 importsCx0, .slice coresAx0 coresNx0 coresCx0] 31)).cell? ⟨w4.heap.size, 1, none⟩ = some (.slice importsAx0 importsNx0 importsCx0) := by rw [← HW5.out]; exact bX0.cell 1
  have c15_bX02 : (w4.alloc (.cells #[.int .i64 pages, .slice importsAx0 importsNx0 importsCx0, .slice coresAx0 coresNx0 coresCx0] 31)).cell? ⟨w4.heap.size, 2, none⟩ = some (.slice coresAx0 coresNx0 coresCx0) := by rw [← HW5.out]; exact bX0.cell 2
  go_wp2_with fail
  rw [← HW5.out]
  clear c10_b00 c11_b01 c12_b02 c13_bX00 c14_bX01 c15_bX02
  clear HW5
  refine (IM'.out w5.heap.size [.int .i64 pages, .slice importsAx0 importsNx0 importsCx0, .slice coresAx0 coresNx0 coresCx0] _ (Nat.le_refl _) (hT.below hB5) (cap_mod Lx0) Lx0.is).mono ?_
  rintro e w6 ⟨rfl, hb6⟩
  have hs6 := hb6.size
  have hB6 := hB5.trans (hb6.mono hB5.size)
  replace Lx0 := Lx0.step hb6
  replace b0 := b0.step hb6
  replace bX0 := bX0.step hb6
  have c16_b00 : w6.cell? ⟨w.heap.size, 0, none⟩ = some (.int .i64 pages) := b0.cell 0
  have c17_b01 : w6.cell? ⟨w.heap.size, 1, none⟩ = some (importsV) := b0.cell 1
  have c18_b02 : w6.cell? ⟨w.heap.size, 2, none⟩ = some (coresV) := b0.cell 2
  have c19_bX00 : w6.cell? ⟨w4.heap.size, 0, none⟩ = some (.int .i64 pages) := bX0.cell 0
  have c20_bX01 : w6.cell? ⟨w4.heap.size, 1, none⟩ = some (.slice importsAx0 importsNx0 importsCx0) := bX0.cell 1
  have c21_bX02 : w6.cell? ⟨w4.heap.size, 2, none⟩ = some (.slice coresAx0 coresNx0 coresCx0) := bX0.cell 2
  go_wp2_with fail
  clear c16_b00 c17_b01 c18_b02 c19_bX00 c20_bX01 c21_bX02
  have c22_b00 : w6.cell? ⟨w.heap.size, 0, none⟩ = some (.int .i64 pages) := b0.cell 0
  have c23_b01 : w6.cell? ⟨w.heap.size, 1, none⟩ = some (importsV) := b0.cell 1
  have c24_b02 : w6.cell? ⟨w.heap.size, 2, none⟩ = some (coresV) := b0.cell 2
  have c25_bX00 : w6.cell? ⟨w4.heap.size, 0, none⟩ = some (.int .i64 pages) := bX0.cell 0
  have c26_bX01 : w6.cell? ⟨w4.heap.size, 1, none⟩ = some (.slice importsAx0 importsNx0 importsCx0) := bX0.cell 1
  have c27_bX02 : w6.cell? ⟨w4.heap.size, 2, none⟩ = some (.slice coresAx0 coresNx0 coresCx0) := bX0.cell 2
  have hA := b0.lt
  have hX := bX0.lt
  have TC := Lib.hid (toModule_all _ w.heap.size [.int .i64 pages, importsV, coresV] w6.drew hB6.size (by rw [← Z0.out]; omega) (by exact R0.out.below hB6.drew))
  go_region_held3 (fun w' => w'.cell? ⟨w.heap.size, 0, none⟩ = some (.int .i64 pages) ∧ w'.cell? ⟨w.heap.size, 1, none⟩ = some (importsV) ∧ w'.cell? ⟨w.heap.size, 2, none⟩ = some (coresV) ∧ w'.cell? ⟨w4.heap.size, 0, none⟩ = some (.int .i64 pages) ∧ w'.cell? ⟨w4.heap.size, 1, none⟩ = some (.slice importsAx0 importsNx0 importsCx0) ∧ w'.cell? ⟨w4.heap.size, 2, none⟩ = some (.slice coresAx0 coresNx0 coresCx0))
    (first | go_keep | exact ⟨(hby.cell (p := ⟨w.heap.size, 0, none⟩) hA).trans c22_b00, (hby.cell (p := ⟨w.heap.size, 1, none⟩) hA).trans c23_b01, (hby.cell (p := ⟨w.heap.size, 2, none⟩) hA).trans c24_b02, (hby.cell (p := ⟨w4.heap.size, 0, none⟩) hX).trans c25_bX00, (hby.cell (p := ⟨w4.heap.size, 1, none⟩) hX).trans c26_bX01, (hby.cell (p := ⟨w4.heap.size, 2, none⟩) hX).trans c27_bX02⟩ | exact ⟨(hbyz.cell (p := ⟨w.heap.size, 0, none⟩) hA).trans c22_b00, (hbyz.cell (p := ⟨w.heap.size, 1, none⟩) hA).trans c23_b01, (hbyz.cell (p := ⟨w.heap.size, 2, none⟩) hA).trans c24_b02, (hbyz.cell (p := ⟨w4.heap.size, 0, none⟩) hX).trans c25_bX00, (hbyz.cell (p := ⟨w4.heap.size, 1, none⟩) hX).trans c26_bX01, (hbyz.cell (p := ⟨w4.heap.size, 2, none⟩) hX).trans c27_bX02⟩)
    (first | (go_at_call 7; refine TC.out.mono ?_; rintro e wy ⟨uy, rfl, Ly, hby⟩; have Ky := Ly; obtain ⟨importsAy, importsNy, importsCy, coresAy, coresNy, coresCy, rfl⟩ := Mod.lopen Ky; have Lxy := Lx0.step ((Below.refl w6.heap.size w6).drew.trans hby)) | (go_at_call 9; refine (eqModule_all _ wy.heap.size [.int .i64 pages, .slice importsAx0 importsNx0 importsCx0, .slice coresAx0 coresNx0 coresCx0] [.int .i64 pages, .slice importsAy importsNy importsCy, .slice coresAy coresNy coresCy] _ (Nat.le_refl _) (by exact Lxy.is) (by exact Ly.is)).mono ?_; rintro e w7 ⟨rfl, hbz⟩; have hbyz : Below w6.heap.size w6 w7 := ((Below.refl _ _).drew.trans hby).trans (hbz.mono hby.size)))
  have hb7 := hbyz
  have hs7 := hb7.size
  have hB7 := hB6.trans (hb7.mono hB6.size)
  replace Lx0 := Lx0.step hb7
  replace b0 := b0.step hb7
  replace bX0 := bX0.step hb7
  clear hbyz hbz hby Lxy Ly TC hA hX
  clear c22_b00 c23_b01 c24_b02 c25_bX00 c26_bX01 c27_bX02
  go_wp2_with fail
  go_ret
  exact ⟨rfl, hB7⟩

end Go.Proofs.YtflpfcnpjadccaaGreatDoor
