/-
  FnExactModuleShape: the law's walk (by program: lawgen2.py).
-/
import Derived.Test.YtmmeaakhikcigaaArg
import Derived.Test.YtmmeaakhikcigaaSz
import Derived.Test.YtmmeaakhikcigaaTo
import Derived.Test.YtmmeaakhikcigaaEq
import Derived.Test.YtmmeaakhikcigaaMk
import Derived.Test.YtmmeaakhikcigaaHd
import Derived.Test.YtmmeaakhikcigaaMoOk
namespace Go.Proofs.Ytmmeaakhikcigaa
open Go.RowKit
set_option linter.unusedVariables false
set_option linter.unusedSimpArgs false
set_option linter.unnecessarySimpa false
set_option maxRecDepth 100000

set_option maxHeartbeats 3200000 in
theorem walk_FnExactModuleShape (w : World) (v0 : Value) (h : ArgModule w v0) :
    Calls Try.prog 3 #[v0] w fun e w' => e = .returned (.bool true) ∧ Below w.heap.size w w' := by
  obtain ⟨t, cs, rfl, hwf, hr⟩ := h
  obtain ⟨pages, imports, cores⟩ := t
  obtain ⟨importsV, coresV, rfl, _, _⟩ := Mod.open_ hr
  have WF := Lib.hid hwf
  have R0 := Lib.hid hr
  clear hwf hr
  obtain ⟨z, hz⟩ : ∃ z : Nat, z = PD.szL (Mod.pd ⟨pages, imports, cores⟩) := ⟨_, rfl⟩
  have Z := Lib.hid hz
  clear hz
  by_cases ht : z ≤ 1048576
  case neg =>
    go_enter Try.func3, Try.ntmps3
    go_wp2_with fail
    obtain ⟨w0, hw0⟩ : ∃ w0, w0 = w.alloc (.cells #[.int .i64 pages, importsV, coresV] 25) := ⟨_, rfl⟩
    rw [← hw0]
    have bA : Blk w0 w.heap.size 25 #[.int .i64 pages, importsV, coresV] := by rw [hw0]; exact Blk.new w _ _
    have hB0 : Below w.heap.size w w0 := by rw [hw0]; exact (Below.refl _ _).alloc (Nat.le_refl _) _
    clear hw0
    have hs0 := bA.lt
    refine (szModule_all _ w.heap.size [.int .i64 pages, importsV, coresV] w0 1048576 (by omega) (by omega) hB0.size WF.out (R0.out.below hB0)).mono ?_
    rintro e w1 ⟨rfl, hb1⟩
    rw [← Z.out, szLeft_no (by omega)]
    go_wp2_with fail
    go_ret
    exact ⟨rfl, hB0.trans (hb1.mono hB0.size)⟩
  have SP := specModuleShape_ok (⟨pages, imports, cores⟩ : Mod) WF.out (by rw [← Z.out]; exact ht)
  have IM := implModuleShape_ok (⟨pages, imports, cores⟩ : Mod) WF.out (by rw [← Z.out]; exact ht)
  obtain ⟨r0, hr⟩ : ∃ r : Bool, r = modB ⟨pages, imports, cores⟩ := ⟨_, rfl⟩
  rw [← hr] at SP IM
  clear hr
  have hne0 : (r0 != r0) = false := by simp
  have SP' := Lib.hid SP
  have IM' := Lib.hid IM
  clear SP IM
  go_enter Try.func3, Try.ntmps3
  go_wp2_with fail
  obtain ⟨w0, hw0⟩ : ∃ w0, w0 = w.alloc (.cells #[.int .i64 pages, importsV, coresV] 25) := ⟨_, rfl⟩
  rw [← hw0]
  have bA : Blk w0 w.heap.size 25 #[.int .i64 pages, importsV, coresV] := by rw [hw0]; exact Blk.new w _ _
  have hB0 : Below w.heap.size w w0 := by rw [hw0]; exact (Below.refl _ _).alloc (Nat.le_refl _) _
  clear hw0
  have hs0 := bA.lt
  refine (szModule_all _ w.heap.size [.int .i64 pages, importsV, coresV] _ 1048576 (by omega) (by omega) hB0.size WF.out (R0.out.below hB0)).mono ?_
  rintro e w1 ⟨rfl, hb1⟩
  have hs1 := hb1.size
  have hB1 := hB0.trans (hb1.mono hB0.size)
  replace bA := bA.step hb1
  rw [← Z.out, szLeft_yes (by omega)]
  have hp : (0 : Int) ≤ 1048576 - (z : Int) := by omega
  have a_bA0 : w1.cell? ⟨w.heap.size, 0, none⟩ = some (.int .i64 pages) := bA.cell 0
  have a_bA1 : w1.cell? ⟨w.heap.size, 1, none⟩ = some (importsV) := bA.cell 1
  have a_bA2 : w1.cell? ⟨w.heap.size, 2, none⟩ = some (coresV) := bA.cell 2
  go_wp2_with fail
  clear a_bA0 a_bA1 a_bA2
  refine (toModule_all _ w.heap.size [.int .i64 pages, importsV, coresV] _ hB1.size (by rw [← Z.out]; exact ht) (R0.out.below hB1)).mono ?_
  rintro e w2 ⟨us, rfl, Ls, hb2⟩
  have hs2 := hb2.size
  have hB2 := hB1.trans (hb2.mono hB1.size)
  replace bA := bA.step hb2
  have Ks := Ls
  obtain ⟨importsAs, importsNs, importsCs, coresAs, coresNs, coresCs, rfl⟩ := Mod.lopen Ks
  clear Ks
  go_wp2_with fail
  refine (SP'.out w2.heap.size [.int .i64 pages, .slice importsAs importsNs importsCs, .slice coresAs coresNs coresCs] _ (Nat.le_refl _) (cap_mod Ls) Ls.is).mono ?_
  rintro e w3 ⟨rfl, hb3⟩
  have hs3 := hb3.size
  have hB3 := hB2.trans (hb3.mono hB2.size)
  replace Ls := Ls.step hb3
  replace bA := bA.step hb3
  clear Ls
  have b_bA0 : w3.cell? ⟨w.heap.size, 0, none⟩ = some (.int .i64 pages) := bA.cell 0
  have b_bA1 : w3.cell? ⟨w.heap.size, 1, none⟩ = some (importsV) := bA.cell 1
  have b_bA2 : w3.cell? ⟨w.heap.size, 2, none⟩ = some (coresV) := bA.cell 2
  go_wp2_with fail
  clear b_bA0 b_bA1 b_bA2
  refine (toModule_all _ w.heap.size [.int .i64 pages, importsV, coresV] _ hB3.size (by rw [← Z.out]; exact ht) (R0.out.below hB3)).mono ?_
  rintro e w4 ⟨ux, rfl, Lx, hb4⟩
  have hs4 := hb4.size
  have hB4 := hB3.trans (hb4.mono hB3.size)
  replace bA := bA.step hb4
  have Kx := Lx
  obtain ⟨importsAx, importsNx, importsCx, coresAx, coresNx, coresCx, rfl⟩ := Mod.lopen Kx
  clear Kx
  go_wp2_with fail
  obtain ⟨w5, hw5⟩ : ∃ W, W = w4.alloc (.cells #[.int .i64 pages, .slice importsAx importsNx importsCx, .slice coresAx coresNx coresCx] 31) := ⟨_, rfl⟩
  rw [← hw5]
  have hb5 : Below w4.heap.size w4 w5 := by rw [hw5]; exact (Below.refl _ _).alloc (Nat.le_refl _) _
  have bX : Blk w5 w4.heap.size 31 #[.int .i64 pages, .slice importsAx importsNx importsCx, .slice coresAx coresNx coresCx] := by rw [hw5]; exact Blk.new w4 _ _
  clear hw5
  have hs5 := hb5.size
  have hB5 := hB4.trans (hb5.mono hB4.size)
  replace Lx := Lx.step hb5
  replace bA := bA.step hb5
  refine (IM'.out w5.heap.size [.int .i64 pages, .slice importsAx importsNx importsCx, .slice coresAx coresNx coresCx] _ (Nat.le_refl _) (cap_mod Lx) Lx.is).mono ?_
  rintro e w6 ⟨rfl, hb6⟩
  have hs6 := hb6.size
  have hB6 := hB5.trans (hb6.mono hB5.size)
  replace Lx := Lx.step hb6
  replace bA := bA.step hb6
  replace bX := bX.step hb6
  go_wp2_with fail
  have c_bA0 : w6.cell? ⟨w.heap.size, 0, none⟩ = some (.int .i64 pages) := bA.cell 0
  have c_bA1 : w6.cell? ⟨w.heap.size, 1, none⟩ = some (importsV) := bA.cell 1
  have c_bA2 : w6.cell? ⟨w.heap.size, 2, none⟩ = some (coresV) := bA.cell 2
  have c_bX0 : w6.cell? ⟨w4.heap.size, 0, none⟩ = some (.int .i64 pages) := bX.cell 0
  have c_bX1 : w6.cell? ⟨w4.heap.size, 1, none⟩ = some (.slice importsAx importsNx importsCx) := bX.cell 1
  have c_bX2 : w6.cell? ⟨w4.heap.size, 2, none⟩ = some (.slice coresAx coresNx coresCx) := bX.cell 2
  have hA := bA.lt
  have hX := bX.lt
  have BZ := Lib.hid (show z ≤ 1048576 from ht)
  have TC := Lib.hid (toModule_all _ w.heap.size [.int .i64 pages, importsV, coresV] w6.drew hB6.size (by rw [← Z.out]; exact ht) (by exact R0.out.below hB6.drew))
  go_region_held3 (fun w' => w'.cell? ⟨w.heap.size, 0, none⟩ = some (.int .i64 pages) ∧ w'.cell? ⟨w.heap.size, 1, none⟩ = some (importsV) ∧ w'.cell? ⟨w.heap.size, 2, none⟩ = some (coresV) ∧ w'.cell? ⟨w4.heap.size, 0, none⟩ = some (.int .i64 pages) ∧ w'.cell? ⟨w4.heap.size, 1, none⟩ = some (.slice importsAx importsNx importsCx) ∧ w'.cell? ⟨w4.heap.size, 2, none⟩ = some (.slice coresAx coresNx coresCx))
    (first | go_keep | exact ⟨(hby.cell (p := ⟨w.heap.size, 0, none⟩) hA).trans c_bA0, (hby.cell (p := ⟨w.heap.size, 1, none⟩) hA).trans c_bA1, (hby.cell (p := ⟨w.heap.size, 2, none⟩) hA).trans c_bA2, (hby.cell (p := ⟨w4.heap.size, 0, none⟩) hX).trans c_bX0, (hby.cell (p := ⟨w4.heap.size, 1, none⟩) hX).trans c_bX1, (hby.cell (p := ⟨w4.heap.size, 2, none⟩) hX).trans c_bX2⟩ | exact ⟨(hbyz.cell (p := ⟨w.heap.size, 0, none⟩) hA).trans c_bA0, (hbyz.cell (p := ⟨w.heap.size, 1, none⟩) hA).trans c_bA1, (hbyz.cell (p := ⟨w.heap.size, 2, none⟩) hA).trans c_bA2, (hbyz.cell (p := ⟨w4.heap.size, 0, none⟩) hX).trans c_bX0, (hbyz.cell (p := ⟨w4.heap.size, 1, none⟩) hX).trans c_bX1, (hbyz.cell (p := ⟨w4.heap.size, 2, none⟩) hX).trans c_bX2⟩)
    (first | (go_at_call 19; refine TC.out.mono ?_; rintro e wy ⟨uy, rfl, Ly, hby⟩; have Ky := Ly; obtain ⟨importsAy, importsNy, importsCy, coresAy, coresNy, coresCy, rfl⟩ := Mod.lopen Ky; have Lxy := Lx.step ((Below.refl w6.heap.size w6).drew.trans hby)) | (go_at_call 21; refine (eqModule_all _ wy.heap.size [.int .i64 pages, .slice importsAx importsNx importsCx, .slice coresAx coresNx coresCx] [.int .i64 pages, .slice importsAy importsNy importsCy, .slice coresAy coresNy coresCy] _ (Nat.le_refl _) (by exact Lxy.is) (by exact Ly.is)).mono ?_; rintro e w7 ⟨rfl, hbz⟩; have hbyz : Below w6.heap.size w6 w7 := ((Below.refl _ _).drew.trans hby).trans (hbz.mono hby.size)))
  have hb7 := hbyz
  have hs7 := hb7.size
  have hB7 := hB6.trans (hb7.mono hB6.size)
  replace Lx := Lx.step hb7
  replace bA := bA.step hb7
  replace bX := bX.step hb7
  clear c_bA0 c_bA1 c_bA2 c_bX0 c_bX1 c_bX2
  go_wp2_with fail
  go_ret
  exact ⟨rfl, hB7⟩

end Go.Proofs.Ytmmeaakhikcigaa
