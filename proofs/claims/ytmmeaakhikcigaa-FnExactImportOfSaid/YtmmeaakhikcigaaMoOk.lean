/-
  ModuleShape, CoreOf, ImportOf of both packages (by program: gen_mook.py).
-/
import Derived.Test.YtmmeaakhikcigaaMoShape
import Derived.Test.YtmmeaakhikcigaaMoImplS
namespace Go.Proofs.Ytmmeaakhikcigaa
open Go.RowKit
set_option linter.unusedVariables false
set_option linter.unusedSimpArgs false
set_option linter.unnecessarySimpa false
theorem ret_ib {k : IntKind} {a b : Int} {c d : Bool} (h1 : a = b) (h2 : c = d) : Ending.returned (.tuple #[.int k a, .bool c]) = .returned (.tuple #[.int k b, .bool d]) := by rw [h1, h2]
def FnCVc (fn : Nat) (ds : List PD) (r : Value) : Prop := ∀ (B : Nat) (cs : List Value) (w : World), B ≤ w.heap.size → CapC cs → RepC w B ds cs →
  Calls Try.prog fn #[.agg cs.toArray] w fun e w' => e = .returned r ∧ Below w.heap.size w w'
def FnCVSc (fn : Nat) (ds : List PD) (s : ByteArray) (r : Value) : Prop := ∀ (B : Nat) (cs : List Value) (w : World), B ≤ w.heap.size → CapC cs → RepC w B ds cs →
  Calls Try.prog fn #[.agg cs.toArray, .string s] w fun e w' => e = .returned r ∧ Below w.heap.size w w'
def coreIdx (m : Mod) (s : ByteArray) : Int := idxP (fun y : Core => decide (y.name = s)) m.cores
def importIdx (m : Mod) (s : ByteArray) : Int := idxP (fun y : Imp => decide (y.name = s)) m.imports
def pickN (ok : Bool) (n : Int) : Int := if ok && decide (0 ≤ n) then n else 0
def coreOfN (m : Mod) (s : ByteArray) : Int := pickN (modB m) (coreIdx m s)
def coreOfB (m : Mod) (s : ByteArray) : Bool := modB m && decide (0 ≤ coreIdx m s)
def importOfN (m : Mod) (s : ByteArray) : Int := pickN (modB m) (importIdx m s)
def importOfB (m : Mod) (s : ByteArray) : Bool := modB m && decide (0 ≤ importIdx m s)
theorem implModuleShape_ok (t : Mod) (hwf : PD.wfL (Mod.pd t)) (hsz : PD.szL (Mod.pd t) ≤ 1048576) : FnCVc 20 (Mod.pd t) (.bool (modB t)) := fun B cs w hB _ h => implShapeM_any t hB hwf h
theorem specModuleShape_ok (t : Mod) (hwf : PD.wfL (Mod.pd t)) (hsz : PD.szL (Mod.pd t) ≤ 1048576) : FnCVc 18 (Mod.pd t) (.bool (modB t)) := by
  intro B cs w hB hcap h
  obtain ⟨pages, imports, cores⟩ := t
  obtain ⟨importsV, coresV, rfl, r_imports, r_cores⟩ := Mod.open_ h
  have R_imports := Lib.hid r_imports
  clear r_imports
  have R_cores := Lib.hid r_cores
  clear r_cores
  have HW := Lib.hid hwf
  have hcall := fun (W : World) (hW : Below w.heap.size w W) => specShapeM_any ⟨pages, imports, cores⟩ (B := B) (cs := [.int .i64 pages, importsV, coresV]) (w := W) (Nat.le_trans hB hW.size) HW.out hcap (Mod.close_ (R_imports.out.below (hW.mono hB)) (R_cores.out.below (hW.mono hB)))
  obtain ⟨R, hR⟩ : ∃ R : Bool, R = modB ⟨pages, imports, cores⟩ := ⟨_, rfl⟩
  rw [← hR]
  simp only [← hR] at hcall
  have HC := Lib.hid hcall
  clear hcall hR h hwf hsz
  go_enter Try.func18, Try.ntmps18
  go_wp2_with fail
  obtain ⟨w0, hw0⟩ : ∃ W, W = w.alloc (.cells #[.int .i64 pages, importsV, coresV] 31) := ⟨_, rfl⟩
  rw [← hw0]
  have bA : Blk w0 w.heap.size 31 #[.int .i64 pages, importsV, coresV] := by rw [hw0]; exact Blk.new w _ _
  have hB0 : Below w.heap.size w w0 := by rw [hw0]; exact (Below.refl _ _).alloc (Nat.le_refl _) _
  clear hw0
  refine (HC.out w0 hB0).mono ?_
  rintro e w1 ⟨rfl, hb1⟩
  go_wp2_with fail
  go_ret
  exact ⟨rfl, hB0.trans (hb1.mono hB0.size)⟩

set_option maxHeartbeats 1600000 in
theorem specCoreOf_ok (t : Mod) (hwf : PD.wfL (Mod.pd t)) (hsz : PD.szL (Mod.pd t) ≤ 1048576) (s : ByteArray) (hs : s.size ≤ 1048576) : FnCVSc 22 (Mod.pd t) s (.tuple #[.int .i64 (coreOfN t s), .bool (coreOfB t s)]) := by
  intro B cs w hB hcap h
  obtain ⟨pages, imports, cores⟩ := t
  obtain ⟨importsV, coresV, rfl, r_imports, r_cores⟩ := Mod.open_ h
  have R_imports := Lib.hid r_imports
  clear r_imports
  have R_cores := Lib.hid r_cores
  clear r_cores
  obtain ⟨A, n, c, rfl⟩ := R_cores.out.form
  have HW := Lib.hid hwf
  have hcall := fun (W : World) (hW : Below w.heap.size w W) => specShapeM_any ⟨pages, imports, cores⟩ (B := B) (cs := [.int .i64 pages, importsV, .slice A n c]) (w := W) (Nat.le_trans hB hW.size) HW.out hcap (Mod.close_ (R_imports.out.below (hW.mono hB)) (R_cores.out.below (hW.mono hB)))
  obtain ⟨N, hN⟩ : ∃ N, idxP (fun y : Core => decide (y.name = s)) cores = N := ⟨_, rfl⟩
  have hlo := idxP_lo (fun y : Core => decide (y.name = s)) cores
  obtain ⟨R, hR⟩ : ∃ R : Bool, R = modB ⟨pages, imports, cores⟩ := ⟨_, rfl⟩
  simp only [coreOfN, coreOfB, coreIdx, ← hR, hN]
  simp only [← hR] at hcall
  rw [hN] at hlo
  obtain ⟨rn, hrn⟩ : ∃ rn, rn = pickN R N := ⟨_, rfl⟩
  obtain ⟨rb, hrb⟩ : ∃ rb : Bool, rb = (R && decide (0 ≤ N)) := ⟨_, rfl⟩
  rw [← hrn, ← hrb]
  have HRN := Lib.hid hrn
  have HRB := Lib.hid hrb
  have HC := Lib.hid hcall
  have HNN := Lib.hid hN
  clear hcall hR h hwf hsz hrn hrb hN

  go_enter Try.func22, Try.ntmps22
  go_wp2_with fail
  obtain ⟨w0, hw0⟩ : ∃ W, W = w.alloc (.cells #[.int .i64 pages, importsV, .slice A n c] 31) := ⟨_, rfl⟩
  rw [← hw0]
  have bA : Blk w0 w.heap.size 31 #[.int .i64 pages, importsV, .slice A n c] := by rw [hw0]; exact Blk.new w _ _
  have hB0 : Below w.heap.size w w0 := by rw [hw0]; exact (Below.refl _ _).alloc (Nat.le_refl _) _
  clear hw0
  refine (specCoreAt_v (R_cores.out.below (hB0.mono hB)) HNN.out).mono ?_
  rintro e w1 ⟨rfl, hw1⟩
  have hw1' := hw1.symm
  clear hw1
  subst hw1'
  have a_pages : w0.cell? ⟨w.heap.size, 0, none⟩ = some (.int .i64 pages) := bA.cell 0
  have a_imports : w0.cell? ⟨w.heap.size, 1, none⟩ = some (importsV) := bA.cell 1
  have a_cores : w0.cell? ⟨w.heap.size, 2, none⟩ = some (.slice A n c) := bA.cell 2
  go_wp2_with fail
  refine (HC.out w0 hB0).mono ?_
  rintro e w1 ⟨rfl, hb1⟩
  have hB1 := hB0.trans (hb1.mono hB0.size)
  cases R
  · have HA : Hid (rn = 0) := by show _ = _; rw [HRN.out]; rfl
    have HB2 : Hid (rb = false) := by show _ = _; rw [HRB.out]; rfl
    go_wp2_with fail
    go_ret2
    exact ⟨ret_ib HA.out.symm HB2.out.symm, hB1⟩
  by_cases hge : N < 0
  · have HA : Hid (rn = 0) := by show _ = _; rw [HRN.out, pickN, decide_eq_false (by omega)]; rfl
    have HB2 : Hid (rb = false) := by show _ = _; rw [HRB.out, decide_eq_false (by omega)]; rfl
    go_wp2_with fail
    go_ret2
    exact ⟨ret_ib HA.out.symm HB2.out.symm, hB1⟩
  · have HA : Hid (rn = N) := by show _ = _; rw [HRN.out, pickN, decide_eq_true (by omega)]; rfl
    have HB2 : Hid (rb = true) := by show _ = _; rw [HRB.out, decide_eq_true (by omega)]; rfl
    go_wp2_with fail
    go_ret2
    exact ⟨ret_ib HA.out.symm HB2.out.symm, hB1⟩

set_option maxHeartbeats 800000 in
theorem CoreOf1_any (t : Core) {s : ByteArray} {B b : Nat} {cs : List Value} {w : World} (h : RepC w B (Core.pd t) cs) (hc : w.cell? ⟨b, 0, none⟩ = some (.string s)) (hb : b < w.heap.size) :
    Calls Try.prog 76 #[.agg cs.toArray, .pointer (some ⟨b, 0, none⟩)] w fun e w' => e = .returned (.bool (decide (t.name = s))) ∧ Below w.heap.size w w' := by
  obtain ⟨name, params, locals, result, code⟩ := t
  obtain ⟨codeV, rfl, r_code⟩ := Core.open_ h
  have R_code := Lib.hid r_code
  clear r_code
  clear h
  by_cases hn : name = s
  · have HF : Hid (decide (name = s) = true) := by show _ = _; simp [hn]
    subst hn
    go_enter Try.func76, Try.ntmps76
    go_wp2
    go_ret
    exact ⟨ret_bool HF.out.symm, (Below.refl _ _).alloc (Nat.le_refl _) _⟩
  · have HF : Hid (decide (name = s) = false) := by show _ = _; simp [hn]
    have hs := str_ne2 hn
    clear hn
    go_enter Try.func76, Try.ntmps76
    go_wp2
    go_ret
    exact ⟨ret_bool HF.out.symm, (Below.refl _ _).alloc (Nat.le_refl _) _⟩

set_option maxHeartbeats 1600000 in
theorem implCoreOf_ok (t : Mod) (hwf : PD.wfL (Mod.pd t)) (hsz : PD.szL (Mod.pd t) ≤ 1048576) (s : ByteArray) (hs : s.size ≤ 1048576) : FnCVSc 23 (Mod.pd t) s (.tuple #[.int .i64 (coreOfN t s), .bool (coreOfB t s)]) := by
  intro B cs w hB hcap h
  obtain ⟨pages, imports, cores⟩ := t
  obtain ⟨importsV, coresV, rfl, r_imports, r_cores⟩ := Mod.open_ h
  have R_imports := Lib.hid r_imports
  clear r_imports
  have R_cores := Lib.hid r_cores
  clear r_cores
  obtain ⟨A, n, c, rfl⟩ := R_cores.out.form
  have HW := Lib.hid hwf
  have hcall := fun (W : World) (hW : Below w.heap.size w W) => implShapeM_any ⟨pages, imports, cores⟩ (B := B) (cs := [.int .i64 pages, importsV, .slice A n c]) (w := W) (Nat.le_trans hB hW.size) HW.out (Mod.close_ (R_imports.out.below (hW.mono hB)) (R_cores.out.below (hW.mono hB)))
  obtain ⟨N, hN⟩ : ∃ N, idxP (fun y : Core => decide (y.name = s)) cores = N := ⟨_, rfl⟩
  have hlo := idxP_lo (fun y : Core => decide (y.name = s)) cores
  obtain ⟨R, hR⟩ : ∃ R : Bool, R = modB ⟨pages, imports, cores⟩ := ⟨_, rfl⟩
  simp only [coreOfN, coreOfB, coreIdx, ← hR, hN]
  simp only [← hR] at hcall
  rw [hN] at hlo
  obtain ⟨rn, hrn⟩ : ∃ rn, rn = pickN R N := ⟨_, rfl⟩
  obtain ⟨rb, hrb⟩ : ∃ rb : Bool, rb = (R && decide (0 ≤ N)) := ⟨_, rfl⟩
  rw [← hrn, ← hrb]
  have HRN := Lib.hid hrn
  have HRB := Lib.hid hrb
  have HC := Lib.hid hcall
  have HNN := Lib.hid hN
  clear hcall hR h hwf hsz hrn hrb hN

  go_enter Try.func23, Try.ntmps23
  go_wp2_with fail
  obtain ⟨w0, hw0⟩ : ∃ W, W = (w.alloc (.cells #[.int .i64 pages, importsV, .slice A n c] 31)).alloc (.cells #[.string s] 9) := ⟨_, rfl⟩
  rw [← hw0]
  have bA : Blk w0 w.heap.size 31 #[.int .i64 pages, importsV, .slice A n c] := by rw [hw0]; exact (Blk.new w _ _).alloc _
  have bS : Blk w0 (w.heap.size + 1) 9 #[.string s] := by rw [hw0]; have := Blk.new (w.alloc (.cells #[.int .i64 pages, importsV, .slice A n c] 31)) 9 #[.string s]; simpa using this
  have hB0 : Below w.heap.size w w0 := by rw [hw0]; exact ((Below.refl _ _).alloc (Nat.le_refl _) _).alloc (by simp) _
  clear hw0
  have hl := bS.lt
  refine (idxCoreS_any 76 #[.pointer (some ⟨w.heap.size + 1, 0, none⟩)] (fun y => decide (y.name = s)) (B := B) (Nat.le_trans hB hB0.size) (R_cores.out.below (hB0.mono hB)) CoreOf1_enter (fun t ht cs W hW hr => CoreOf1_any t hr ((hW.cell (p := ⟨w.heap.size + 1, 0, none⟩) hl).trans (bS.cell 0)) (by have := hW.size; omega))).mono ?_
  rintro e w1 ⟨rfl, hb1⟩
  rw [HNN.out]
  have hB1 := hB0.trans (hb1.mono hB0.size)
  have bA1 := bA.step hb1
  clear bA
  have a_pages : w1.cell? ⟨w.heap.size, 0, none⟩ = some (.int .i64 pages) := bA1.cell 0
  have a_imports : w1.cell? ⟨w.heap.size, 1, none⟩ = some (importsV) := bA1.cell 1
  have a_cores : w1.cell? ⟨w.heap.size, 2, none⟩ = some (.slice A n c) := bA1.cell 2
  by_cases hge : N < 0
  · have HA : Hid (rn = 0) := by show _ = _; rw [HRN.out, pickN, decide_eq_false (by omega), Bool.and_false]; rfl
    have HB2 : Hid (rb = false) := by show _ = _; rw [HRB.out, decide_eq_false (by omega), Bool.and_false]
    go_wp2_with fail
    go_ret2
    exact ⟨ret_ib HA.out.symm HB2.out.symm, hB1⟩
  have HD : Hid (decide (0 ≤ N) = true) := decide_eq_true (by omega)
  go_wp2_with fail
  refine (HC.out w1 hB1).mono ?_
  rintro e w2 ⟨rfl, hb2⟩
  have hB2 := hB1.trans (hb2.mono hB1.size)
  cases R
  · have HA : Hid (rn = 0) := by show _ = _; rw [HRN.out]; rfl
    have HB2 : Hid (rb = false) := by show _ = _; rw [HRB.out]; rfl
    go_wp2_with fail
    go_ret2
    exact ⟨ret_ib HA.out.symm HB2.out.symm, hB2⟩
  · have HA : Hid (rn = N) := by show _ = _; rw [HRN.out, pickN, HD.out]; rfl
    have HB2 : Hid (rb = true) := by show _ = _; rw [HRB.out, HD.out]; rfl
    go_wp2_with fail
    go_ret2
    exact ⟨ret_ib HA.out.symm HB2.out.symm, hB2⟩

set_option maxHeartbeats 1600000 in
theorem specImportOf_ok (t : Mod) (hwf : PD.wfL (Mod.pd t)) (hsz : PD.szL (Mod.pd t) ≤ 1048576) (s : ByteArray) (hs : s.size ≤ 1048576) : FnCVSc 24 (Mod.pd t) s (.tuple #[.int .i64 (importOfN t s), .bool (importOfB t s)]) := by
  intro B cs w hB hcap h
  obtain ⟨pages, imports, cores⟩ := t
  obtain ⟨importsV, coresV, rfl, r_imports, r_cores⟩ := Mod.open_ h
  have R_imports := Lib.hid r_imports
  clear r_imports
  have R_cores := Lib.hid r_cores
  clear r_cores
  obtain ⟨A, n, c, rfl⟩ := R_imports.out.form
  have HW := Lib.hid hwf
  have hcall := fun (W : World) (hW : Below w.heap.size w W) => specShapeM_any ⟨pages, imports, cores⟩ (B := B) (cs := [.int .i64 pages, .slice A n c, coresV]) (w := W) (Nat.le_trans hB hW.size) HW.out hcap (Mod.close_ (R_imports.out.below (hW.mono hB)) (R_cores.out.below (hW.mono hB)))
  obtain ⟨N, hN⟩ : ∃ N, idxP (fun y : Imp => decide (y.name = s)) imports = N := ⟨_, rfl⟩
  have hlo := idxP_lo (fun y : Imp => decide (y.name = s)) imports
  obtain ⟨R, hR⟩ : ∃ R : Bool, R = modB ⟨pages, imports, cores⟩ := ⟨_, rfl⟩
  simp only [importOfN, importOfB, importIdx, ← hR, hN]
  simp only [← hR] at hcall
  rw [hN] at hlo
  obtain ⟨rn, hrn⟩ : ∃ rn, rn = pickN R N := ⟨_, rfl⟩
  obtain ⟨rb, hrb⟩ : ∃ rb : Bool, rb = (R && decide (0 ≤ N)) := ⟨_, rfl⟩
  rw [← hrn, ← hrb]
  have HRN := Lib.hid hrn
  have HRB := Lib.hid hrb
  have HC := Lib.hid hcall
  have HNN := Lib.hid hN
  clear hcall hR h hwf hsz hrn hrb hN

  go_enter Try.func24, Try.ntmps24
  go_wp2_with fail
  obtain ⟨w0, hw0⟩ : ∃ W, W = w.alloc (.cells #[.int .i64 pages, .slice A n c, coresV] 31) := ⟨_, rfl⟩
  rw [← hw0]
  have bA : Blk w0 w.heap.size 31 #[.int .i64 pages, .slice A n c, coresV] := by rw [hw0]; exact Blk.new w _ _
  have hB0 : Below w.heap.size w w0 := by rw [hw0]; exact (Below.refl _ _).alloc (Nat.le_refl _) _
  clear hw0
  refine (specImportAt_v (R_imports.out.below (hB0.mono hB)) HNN.out).mono ?_
  rintro e w1 ⟨rfl, hw1⟩
  have hw1' := hw1.symm
  clear hw1
  subst hw1'
  have a_pages : w0.cell? ⟨w.heap.size, 0, none⟩ = some (.int .i64 pages) := bA.cell 0
  have a_imports : w0.cell? ⟨w.heap.size, 1, none⟩ = some (.slice A n c) := bA.cell 1
  have a_cores : w0.cell? ⟨w.heap.size, 2, none⟩ = some (coresV) := bA.cell 2
  go_wp2_with fail
  refine (HC.out w0 hB0).mono ?_
  rintro e w1 ⟨rfl, hb1⟩
  have hB1 := hB0.trans (hb1.mono hB0.size)
  cases R
  · have HA : Hid (rn = 0) := by show _ = _; rw [HRN.out]; rfl
    have HB2 : Hid (rb = false) := by show _ = _; rw [HRB.out]; rfl
    go_wp2_with fail
    go_ret2
    exact ⟨ret_ib HA.out.symm HB2.out.symm, hB1⟩
  by_cases hge : N < 0
  · have HA : Hid (rn = 0) := by show _ = _; rw [HRN.out, pickN, decide_eq_false (by omega)]; rfl
    have HB2 : Hid (rb = false) := by show _ = _; rw [HRB.out, decide_eq_false (by omega)]; rfl
    go_wp2_with fail
    go_ret2
    exact ⟨ret_ib HA.out.symm HB2.out.symm, hB1⟩
  · have HA : Hid (rn = N) := by show _ = _; rw [HRN.out, pickN, decide_eq_true (by omega)]; rfl
    have HB2 : Hid (rb = true) := by show _ = _; rw [HRB.out, decide_eq_true (by omega)]; rfl
    go_wp2_with fail
    go_ret2
    exact ⟨ret_ib HA.out.symm HB2.out.symm, hB1⟩

set_option maxHeartbeats 800000 in
theorem ImportOf1_any (t : Imp) {s : ByteArray} {B b : Nat} {cs : List Value} {w : World} (h : RepC w B (Imp.pd t) cs) (hc : w.cell? ⟨b, 0, none⟩ = some (.string s)) (hb : b < w.heap.size) :
    Calls Try.prog 79 #[.agg cs.toArray, .pointer (some ⟨b, 0, none⟩)] w fun e w' => e = .returned (.bool (decide (t.name = s))) ∧ Below w.heap.size w w' := by
  obtain ⟨name, params, result⟩ := t
  obtain rfl := Imp.open_ h
  clear h
  by_cases hn : name = s
  · have HF : Hid (decide (name = s) = true) := by show _ = _; simp [hn]
    subst hn
    go_enter Try.func79, Try.ntmps79
    go_wp2
    go_ret
    exact ⟨ret_bool HF.out.symm, (Below.refl _ _).alloc (Nat.le_refl _) _⟩
  · have HF : Hid (decide (name = s) = false) := by show _ = _; simp [hn]
    have hs := str_ne2 hn
    clear hn
    go_enter Try.func79, Try.ntmps79
    go_wp2
    go_ret
    exact ⟨ret_bool HF.out.symm, (Below.refl _ _).alloc (Nat.le_refl _) _⟩

set_option maxHeartbeats 1600000 in
theorem implImportOf_ok (t : Mod) (hwf : PD.wfL (Mod.pd t)) (hsz : PD.szL (Mod.pd t) ≤ 1048576) (s : ByteArray) (hs : s.size ≤ 1048576) : FnCVSc 25 (Mod.pd t) s (.tuple #[.int .i64 (importOfN t s), .bool (importOfB t s)]) := by
  intro B cs w hB hcap h
  obtain ⟨pages, imports, cores⟩ := t
  obtain ⟨importsV, coresV, rfl, r_imports, r_cores⟩ := Mod.open_ h
  have R_imports := Lib.hid r_imports
  clear r_imports
  have R_cores := Lib.hid r_cores
  clear r_cores
  obtain ⟨A, n, c, rfl⟩ := R_imports.out.form
  have HW := Lib.hid hwf
  have hcall := fun (W : World) (hW : Below w.heap.size w W) => implShapeM_any ⟨pages, imports, cores⟩ (B := B) (cs := [.int .i64 pages, .slice A n c, coresV]) (w := W) (Nat.le_trans hB hW.size) HW.out (Mod.close_ (R_imports.out.below (hW.mono hB)) (R_cores.out.below (hW.mono hB)))
  obtain ⟨N, hN⟩ : ∃ N, idxP (fun y : Imp => decide (y.name = s)) imports = N := ⟨_, rfl⟩
  have hlo := idxP_lo (fun y : Imp => decide (y.name = s)) imports
  obtain ⟨R, hR⟩ : ∃ R : Bool, R = modB ⟨pages, imports, cores⟩ := ⟨_, rfl⟩
  simp only [importOfN, importOfB, importIdx, ← hR, hN]
  simp only [← hR] at hcall
  rw [hN] at hlo
  obtain ⟨rn, hrn⟩ : ∃ rn, rn = pickN R N := ⟨_, rfl⟩
  obtain ⟨rb, hrb⟩ : ∃ rb : Bool, rb = (R && decide (0 ≤ N)) := ⟨_, rfl⟩
  rw [← hrn, ← hrb]
  have HRN := Lib.hid hrn
  have HRB := Lib.hid hrb
  have HC := Lib.hid hcall
  have HNN := Lib.hid hN
  clear hcall hR h hwf hsz hrn hrb hN

  go_enter Try.func25, Try.ntmps25
  go_wp2_with fail
  obtain ⟨w0, hw0⟩ : ∃ W, W = (w.alloc (.cells #[.int .i64 pages, .slice A n c, coresV] 31)).alloc (.cells #[.string s] 9) := ⟨_, rfl⟩
  rw [← hw0]
  have bA : Blk w0 w.heap.size 31 #[.int .i64 pages, .slice A n c, coresV] := by rw [hw0]; exact (Blk.new w _ _).alloc _
  have bS : Blk w0 (w.heap.size + 1) 9 #[.string s] := by rw [hw0]; have := Blk.new (w.alloc (.cells #[.int .i64 pages, .slice A n c, coresV] 31)) 9 #[.string s]; simpa using this
  have hB0 : Below w.heap.size w w0 := by rw [hw0]; exact ((Below.refl _ _).alloc (Nat.le_refl _) _).alloc (by simp) _
  clear hw0
  have hl := bS.lt
  refine (idxImportS_any 79 #[.pointer (some ⟨w.heap.size + 1, 0, none⟩)] (fun y => decide (y.name = s)) (B := B) (Nat.le_trans hB hB0.size) (R_imports.out.below (hB0.mono hB)) ImportOf1_enter (fun t ht cs W hW hr => ImportOf1_any t hr ((hW.cell (p := ⟨w.heap.size + 1, 0, none⟩) hl).trans (bS.cell 0)) (by have := hW.size; omega))).mono ?_
  rintro e w1 ⟨rfl, hb1⟩
  rw [HNN.out]
  have hB1 := hB0.trans (hb1.mono hB0.size)
  have bA1 := bA.step hb1
  clear bA
  have a_pages : w1.cell? ⟨w.heap.size, 0, none⟩ = some (.int .i64 pages) := bA1.cell 0
  have a_imports : w1.cell? ⟨w.heap.size, 1, none⟩ = some (.slice A n c) := bA1.cell 1
  have a_cores : w1.cell? ⟨w.heap.size, 2, none⟩ = some (coresV) := bA1.cell 2
  by_cases hge : N < 0
  · have HA : Hid (rn = 0) := by show _ = _; rw [HRN.out, pickN, decide_eq_false (by omega), Bool.and_false]; rfl
    have HB2 : Hid (rb = false) := by show _ = _; rw [HRB.out, decide_eq_false (by omega), Bool.and_false]
    go_wp2_with fail
    go_ret2
    exact ⟨ret_ib HA.out.symm HB2.out.symm, hB1⟩
  have HD : Hid (decide (0 ≤ N) = true) := decide_eq_true (by omega)
  go_wp2_with fail
  refine (HC.out w1 hB1).mono ?_
  rintro e w2 ⟨rfl, hb2⟩
  have hB2 := hB1.trans (hb2.mono hB1.size)
  cases R
  · have HA : Hid (rn = 0) := by show _ = _; rw [HRN.out]; rfl
    have HB2 : Hid (rb = false) := by show _ = _; rw [HRB.out]; rfl
    go_wp2_with fail
    go_ret2
    exact ⟨ret_ib HA.out.symm HB2.out.symm, hB2⟩
  · have HA : Hid (rn = N) := by show _ = _; rw [HRN.out, pickN, HD.out]; rfl
    have HB2 : Hid (rb = true) := by show _ = _; rw [HRB.out, HD.out]; rfl
    go_wp2_with fail
    go_ret2
    exact ⟨ret_ib HA.out.symm HB2.out.symm, hB2⟩

end Go.Proofs.Ytmmeaakhikcigaa

