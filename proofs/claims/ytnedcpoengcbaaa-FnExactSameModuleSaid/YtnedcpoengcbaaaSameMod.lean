/-
  spec.SameModule, impl.SameModule: the same bool (by program: gen_samemod.py).
-/
import Derived.Test.YtnedcpoengcbaaaCmp
import Derived.Deep.RegionHeld3
namespace Go.Proofs.Ytnedcpoengcbaaa
open Go.RowKit
set_option linter.unusedVariables false
set_option linter.unusedSimpArgs false
set_option linter.unnecessarySimpa false
set_option maxRecDepth 100000

def coreEq : Core → Core → Bool | ⟨name, params, locals, result, code⟩, ⟨Zname, Zparams, Zlocals, Zresult, Zcode⟩ => decide (name = Zname) && decide (params = Zparams) && decide (locals = Zlocals) && decide (result = Zresult) && same2 Ins.eqb code Zcode
def modEq : Mod → Mod → Bool | ⟨pages, imports, cores⟩, ⟨Zpages, Zimports, Zcores⟩ => decide (pages = Zpages) && same2 Imp.eqb imports Zimports && same2 coreEq cores Zcores
set_option maxHeartbeats 3200000 in
theorem implSameCore_any (x y : Core) {B : Nat} {cs ds : List Value} {w : World} (hB : B ≤ w.heap.size) (h : RepC w B (Core.pd x) cs) (k : RepC w B (Core.pd y) ds) :
    Calls Try.prog 32 #[.agg cs.toArray, .agg ds.toArray] w fun e w' => e = .returned (.bool (coreEq x y)) ∧ Below w.heap.size w w' := by
  obtain ⟨name, params, locals, result, code⟩ := x
  obtain ⟨codeV, rfl, r_code⟩ := Core.open_ h
  obtain ⟨codeA, codeN, codeC, rfl⟩ := r_code.form
  have R_code := Lib.hid r_code
  clear r_code
  obtain ⟨Zname, Zparams, Zlocals, Zresult, Zcode⟩ := y
  obtain ⟨ZcodeV, rfl, r_Zcode⟩ := Core.open_ k
  obtain ⟨ZcodeA, ZcodeN, ZcodeC, rfl⟩ := r_Zcode.form
  have R_Zcode := Lib.hid r_Zcode
  clear r_Zcode
  clear h k
  by_cases h_name : name = Zname
  case neg =>
    have HF : Hid (coreEq (⟨name, params, locals, result, code⟩ : Core) (⟨Zname, Zparams, Zlocals, Zresult, Zcode⟩ : Core) = false) := by show _ = _; simp [coreEq, h_name]
    have hs : (name.toList == Zname.toList) = false := str_ne2 h_name
    have hs2 : (name.toList != Zname.toList) = true := by simpa using hs
    go_enter Try.func32, Try.ntmps32
    go_wp2_with fail
    go_ret
    exact ⟨ret_bool HF.out.symm, ((Below.refl _ _).alloc (Nat.le_refl _) _).alloc (by simp) _⟩
  subst h_name
  by_cases h_params : params = Zparams
  case neg =>
    have HF : Hid (coreEq (⟨name, params, locals, result, code⟩ : Core) (⟨name, Zparams, Zlocals, Zresult, Zcode⟩ : Core) = false) := by show _ = _; simp [coreEq, h_params]
    have hs : (params == Zparams) = false := by simpa using h_params
    have hs2 : (params != Zparams) = true := by simpa using h_params
    go_enter Try.func32, Try.ntmps32
    go_wp2_with fail
    go_ret
    exact ⟨ret_bool HF.out.symm, ((Below.refl _ _).alloc (Nat.le_refl _) _).alloc (by simp) _⟩
  subst h_params
  by_cases h_locals : locals = Zlocals
  case neg =>
    have HF : Hid (coreEq (⟨name, params, locals, result, code⟩ : Core) (⟨name, params, Zlocals, Zresult, Zcode⟩ : Core) = false) := by show _ = _; simp [coreEq, h_locals]
    have hs : (locals == Zlocals) = false := by simpa using h_locals
    have hs2 : (locals != Zlocals) = true := by simpa using h_locals
    go_enter Try.func32, Try.ntmps32
    go_wp2_with fail
    go_ret
    exact ⟨ret_bool HF.out.symm, ((Below.refl _ _).alloc (Nat.le_refl _) _).alloc (by simp) _⟩
  subst h_locals
  by_cases h_result : result = Zresult
  case neg =>
    have HF : Hid (coreEq (⟨name, params, locals, result, code⟩ : Core) (⟨name, params, locals, Zresult, Zcode⟩ : Core) = false) := by show _ = _; simp [coreEq, h_result]
    have hs : (result == Zresult) = false := by simpa using h_result
    have hs2 : (result != Zresult) = true := by simpa using h_result
    go_enter Try.func32, Try.ntmps32
    go_wp2_with fail
    go_ret
    exact ⟨ret_bool HF.out.symm, ((Below.refl _ _).alloc (Nat.le_refl _) _).alloc (by simp) _⟩
  subst h_result
  have HF : Hid (coreEq (⟨name, params, locals, result, code⟩ : Core) (⟨name, params, locals, result, Zcode⟩ : Core) = same2 Ins.eqb code Zcode) := by show _ = _; simp [coreEq]
  obtain ⟨w0, hw0⟩ : ∃ W, W = (w.alloc (.cells #[.string name, .int .i64 params, .int .i64 locals, .bool result, .slice codeA codeN codeC] 55)).alloc (.cells #[.string name, .int .i64 params, .int .i64 locals, .bool result, .slice ZcodeA ZcodeN ZcodeC] 55) := ⟨_, rfl⟩
  have bA : Blk w0 w.heap.size 55 #[.string name, .int .i64 params, .int .i64 locals, .bool result, .slice codeA codeN codeC] := by rw [hw0]; exact (Blk.new w _ _).alloc _
  have bC : Blk w0 (w.heap.size + 1) 55 #[.string name, .int .i64 params, .int .i64 locals, .bool result, .slice ZcodeA ZcodeN ZcodeC] := by rw [hw0]; have := Blk.new (w.alloc (.cells #[.string name, .int .i64 params, .int .i64 locals, .bool result, .slice codeA codeN codeC] 55)) 55 #[.string name, .int .i64 params, .int .i64 locals, .bool result, .slice ZcodeA ZcodeN ZcodeC]; simpa using this
  have hB0 : Below w.heap.size w w0 := by rw [hw0]; exact ((Below.refl _ _).alloc (Nat.le_refl _) _).alloc (by simp) _
  have hs0 := hB0.size
  go_enter Try.func32, Try.ntmps32
  go_wp2_with fail
  rw [← hw0]
  refine (equalInsS_any (R_code.out.below (hB0.mono hB)) (R_Zcode.out.below (hB0.mono hB))).mono ?_
  rintro e w1 ⟨rfl, hb1⟩
  go_wp2_with fail
  go_ret
  exact ⟨ret_bool HF.out.symm, hB0.trans (hb1.mono hs0)⟩
theorem sameCore_enter (a : Array Value) (W : World) : Sem.run Try.prog (callFunc 32 a) W = .ok (.enter 32 a) W := by kernel_rfl
set_option maxHeartbeats 3200000 in
theorem implSameModule_any (x y : Mod) {B : Nat} {cs ds : List Value} {w : World} (hB : B ≤ w.heap.size) (h : RepC w B (Mod.pd x) cs) (k : RepC w B (Mod.pd y) ds) :
    Calls Try.prog 9 #[.agg cs.toArray, .agg ds.toArray] w fun e w' => e = .returned (.bool (modEq x y)) ∧ Below w.heap.size w w' := by
  obtain ⟨pages, imports, cores⟩ := x
  obtain ⟨importsV, coresV, rfl, r_imports, r_cores⟩ := Mod.open_ h
  obtain ⟨importsA, importsN, importsC, rfl⟩ := r_imports.form
  have R_imports := Lib.hid r_imports
  clear r_imports
  obtain ⟨coresA, coresN, coresC, rfl⟩ := r_cores.form
  have R_cores := Lib.hid r_cores
  clear r_cores
  obtain ⟨Zpages, Zimports, Zcores⟩ := y
  obtain ⟨ZimportsV, ZcoresV, rfl, r_Zimports, r_Zcores⟩ := Mod.open_ k
  obtain ⟨ZimportsA, ZimportsN, ZimportsC, rfl⟩ := r_Zimports.form
  have R_Zimports := Lib.hid r_Zimports
  clear r_Zimports
  obtain ⟨ZcoresA, ZcoresN, ZcoresC, rfl⟩ := r_Zcores.form
  have R_Zcores := Lib.hid r_Zcores
  clear r_Zcores
  clear h k
  by_cases h_pages : pages = Zpages
  case neg =>
    have HF : Hid (modEq (⟨pages, imports, cores⟩ : Mod) (⟨Zpages, Zimports, Zcores⟩ : Mod) = false) := by show _ = _; simp [modEq, h_pages]
    have hs : (pages == Zpages) = false := by simpa using h_pages
    have hs2 : (pages != Zpages) = true := by simpa using h_pages
    go_enter Try.func9, Try.ntmps9
    go_wp2_with fail
    go_ret
    exact ⟨ret_bool HF.out.symm, ((Below.refl _ _).alloc (Nat.le_refl _) _).alloc (by simp) _⟩
  subst h_pages
  have HF : Hid (modEq (⟨pages, imports, cores⟩ : Mod) (⟨pages, Zimports, Zcores⟩ : Mod) = (same2 Imp.eqb imports Zimports && same2 coreEq cores Zcores)) := by show _ = _; simp [modEq]
  obtain ⟨w0, hw0⟩ : ∃ W, W = (w.alloc (.cells #[.int .i64 pages, .slice importsA importsN importsC, .slice coresA coresN coresC] 31)).alloc (.cells #[.int .i64 pages, .slice ZimportsA ZimportsN ZimportsC, .slice ZcoresA ZcoresN ZcoresC] 31) := ⟨_, rfl⟩
  have bA : Blk w0 w.heap.size 31 #[.int .i64 pages, .slice importsA importsN importsC, .slice coresA coresN coresC] := by rw [hw0]; exact (Blk.new w _ _).alloc _
  have bC : Blk w0 (w.heap.size + 1) 31 #[.int .i64 pages, .slice ZimportsA ZimportsN ZimportsC, .slice ZcoresA ZcoresN ZcoresC] := by rw [hw0]; have := Blk.new (w.alloc (.cells #[.int .i64 pages, .slice importsA importsN importsC, .slice coresA coresN coresC] 31)) 31 #[.int .i64 pages, .slice ZimportsA ZimportsN ZimportsC, .slice ZcoresA ZcoresN ZcoresC]; simpa using this
  have hB0 : Below w.heap.size w w0 := by rw [hw0]; exact ((Below.refl _ _).alloc (Nat.le_refl _) _).alloc (by simp) _
  have hs0 := hB0.size
  go_enter Try.func9, Try.ntmps9
  go_wp2_with fail
  rw [← hw0]
  refine (equalImportS_any (R_imports.out.below (hB0.mono hB)) (R_Zimports.out.below (hB0.mono hB))).mono ?_
  rintro e w1 ⟨rfl, hb1⟩
  have hB1 := hB0.trans (hb1.mono hs0)
  have c1 : w1.cell? ⟨w.heap.size, 2, none⟩ = some (.slice coresA coresN coresC) := (bA.step hb1).cell 2
  have c2 : w1.cell? ⟨w.heap.size + 1, 2, none⟩ = some (.slice ZcoresA ZcoresN ZcoresC) := (bC.step hb1).cell 2
  clear bA bC hw0
  cases hi : same2 Imp.eqb imports Zimports
  · go_wp2_with fail
    go_ret
    exact ⟨ret_bool (by rw [HF.out, hi]; rfl), hB1⟩
  · go_wp2_with fail
    refine (eqfCoreS_any 32 #[] coreEq (Nat.le_trans hB hB1.size) (R_cores.out.below (hB1.mono hB)) (R_Zcores.out.below (hB1.mono hB)) sameCore_enter (fun x _ y _ cs ds W hW hr1 hr2 => implSameCore_any x y (Nat.le_trans (Nat.le_trans hB hB1.size) hW.size) hr1 hr2)).mono ?_
    rintro e w2 ⟨rfl, hb2⟩
    go_wp2_with fail
    go_ret
    exact ⟨ret_bool (by rw [HF.out, hi]; rfl), hB1.trans (hb2.mono hB1.size)⟩
set_option maxHeartbeats 3200000 in
theorem specSameCore_any (x y : Core) {B : Nat} {cs ds : List Value} {w : World} (hB : B ≤ w.heap.size) (h : RepC w B (Core.pd x) cs) (k : RepC w B (Core.pd y) ds) :
    Calls Try.prog 27 #[.agg cs.toArray, .agg ds.toArray] w fun e w' => e = .returned (.bool (coreEq x y)) ∧ Below w.heap.size w w' := by
  obtain ⟨name, params, locals, result, code⟩ := x
  obtain ⟨codeV, rfl, r_code⟩ := Core.open_ h
  obtain ⟨codeA, codeN, codeC, rfl⟩ := r_code.form
  have R_code := Lib.hid r_code
  clear r_code
  obtain ⟨Zname, Zparams, Zlocals, Zresult, Zcode⟩ := y
  obtain ⟨ZcodeV, rfl, r_Zcode⟩ := Core.open_ k
  obtain ⟨ZcodeA, ZcodeN, ZcodeC, rfl⟩ := r_Zcode.form
  have R_Zcode := Lib.hid r_Zcode
  clear r_Zcode
  clear h k
  by_cases h_name : name = Zname
  case neg =>
    have HF : Hid (coreEq (⟨name, params, locals, result, code⟩ : Core) (⟨Zname, Zparams, Zlocals, Zresult, Zcode⟩ : Core) = false) := by show _ = _; simp [coreEq, h_name]
    have hs : (name.toList == Zname.toList) = false := str_ne2 h_name
    have hs2 : (name.toList != Zname.toList) = true := by simpa using hs
    go_enter Try.func27, Try.ntmps27
    go_wp2_with fail
    go_ret
    exact ⟨ret_bool HF.out.symm, ((Below.refl _ _).alloc (Nat.le_refl _) _).alloc (by simp) _⟩
  subst h_name
  by_cases h_params : params = Zparams
  case neg =>
    have HF : Hid (coreEq (⟨name, params, locals, result, code⟩ : Core) (⟨name, Zparams, Zlocals, Zresult, Zcode⟩ : Core) = false) := by show _ = _; simp [coreEq, h_params]
    have hs : (params == Zparams) = false := by simpa using h_params
    have hs2 : (params != Zparams) = true := by simpa using h_params
    go_enter Try.func27, Try.ntmps27
    go_wp2_with fail
    go_ret
    exact ⟨ret_bool HF.out.symm, ((Below.refl _ _).alloc (Nat.le_refl _) _).alloc (by simp) _⟩
  subst h_params
  by_cases h_locals : locals = Zlocals
  case neg =>
    have HF : Hid (coreEq (⟨name, params, locals, result, code⟩ : Core) (⟨name, params, Zlocals, Zresult, Zcode⟩ : Core) = false) := by show _ = _; simp [coreEq, h_locals]
    have hs : (locals == Zlocals) = false := by simpa using h_locals
    have hs2 : (locals != Zlocals) = true := by simpa using h_locals
    go_enter Try.func27, Try.ntmps27
    go_wp2_with fail
    go_ret
    exact ⟨ret_bool HF.out.symm, ((Below.refl _ _).alloc (Nat.le_refl _) _).alloc (by simp) _⟩
  subst h_locals
  by_cases h_result : result = Zresult
  case neg =>
    have HF : Hid (coreEq (⟨name, params, locals, result, code⟩ : Core) (⟨name, params, locals, Zresult, Zcode⟩ : Core) = false) := by show _ = _; simp [coreEq, h_result]
    have hs : (result == Zresult) = false := by simpa using h_result
    have hs2 : (result != Zresult) = true := by simpa using h_result
    go_enter Try.func27, Try.ntmps27
    go_wp2_with fail
    go_ret
    exact ⟨ret_bool HF.out.symm, ((Below.refl _ _).alloc (Nat.le_refl _) _).alloc (by simp) _⟩
  subst h_result
  obtain ⟨_, _, _, he, hn_code, hm_code, hat_code⟩ := rep_row Ins.pd_length (by decide) R_code.out
  injection he with e1 e2 e3
  subst e1 e2 e3
  unfold maxLen at hm_code
  have HN_code := Lib.hid hn_code
  clear hn_code
  obtain ⟨_, _, _, he, hn_Zcode, hm_Zcode, hat_Zcode⟩ := rep_row Ins.pd_length (by decide) R_Zcode.out
  injection he with e1 e2 e3
  subst e1 e2 e3
  unfold maxLen at hm_Zcode
  have HN_Zcode := Lib.hid hn_Zcode
  clear hn_Zcode
  by_cases hl_code : codeN = ZcodeN
  case neg =>
    have HF : Hid (coreEq (⟨name, params, locals, result, code⟩ : Core) (⟨name, params, locals, result, Zcode⟩ : Core) = false) := by show _ = _; rw [coreEq]; rw [same2_ne (by have := HN_code.out; have := HN_Zcode.out; omega), Bool.and_false]
    have hs : ((codeN : Int) != (ZcodeN : Int)) = true := by simp; omega
    go_enter Try.func27, Try.ntmps27
    go_wp2_with fail
    go_ret
    exact ⟨ret_bool HF.out.symm, ((Below.refl _ _).alloc (Nat.le_refl _) _).alloc (by simp) _⟩
  subst hl_code
  have HF : Hid (coreEq (⟨name, params, locals, result, code⟩ : Core) (⟨name, params, locals, result, Zcode⟩ : Core) = same2 Ins.eqb code Zcode) := by show _ = _; simp [coreEq]
  obtain ⟨w0, hw0⟩ : ∃ W, W = (w.alloc (.cells #[.string name, .int .i64 params, .int .i64 locals, .bool result, .slice codeA codeN codeC] 55)).alloc (.cells #[.string name, .int .i64 params, .int .i64 locals, .bool result, .slice ZcodeA codeN ZcodeC] 55) := ⟨_, rfl⟩
  have bA : Blk w0 w.heap.size 55 #[.string name, .int .i64 params, .int .i64 locals, .bool result, .slice codeA codeN codeC] := by rw [hw0]; exact (Blk.new w _ _).alloc _
  have bC : Blk w0 (w.heap.size + 1) 55 #[.string name, .int .i64 params, .int .i64 locals, .bool result, .slice ZcodeA codeN ZcodeC] := by rw [hw0]; have := Blk.new (w.alloc (.cells #[.string name, .int .i64 params, .int .i64 locals, .bool result, .slice codeA codeN codeC] 55)) 55 #[.string name, .int .i64 params, .int .i64 locals, .bool result, .slice ZcodeA codeN ZcodeC]; simpa using this
  have hB0 : Below w.heap.size w w0 := by rw [hw0]; exact ((Below.refl _ _).alloc (Nat.le_refl _) _).alloc (by simp) _
  have hs0 := hB0.size
  have a1 : w0.cell? ⟨w.heap.size, 4, none⟩ = some (.slice codeA codeN codeC) := bA.cell 4
  have a2 : w0.cell? ⟨w.heap.size + 1, 4, none⟩ = some (.slice ZcodeA codeN ZcodeC) := bC.cell 4
  clear bA bC
  go_enter Try.func27, Try.ntmps27
  go_wp2_with fail
  rw [← hw0]
  clear hw0
  go_loopw [5] (fun i wr => ∃ k : Nat, k ≤ codeN ∧ i = .int .i64 k ∧ Hid (∀ (j : Nat) (a b : Ins), j < k → code[j]? = some a → Zcode[j]? = some b → Ins.eqb a b = true) ∧ ∃ q, wr = w0.drewN q) (fun i _ => codeN - (intOf i).toNat)
  case atStart => exact ⟨0, Nat.zero_le _, rfl, Lib.hid fun j a b h => absurd h (by omega), 0, rfl⟩
  case round =>
    obtain ⟨k, hk, rfl, HP, q, rfl⟩ := hrel
    by_cases hlt : k < codeN
    · obtain ⟨g, off, rfl, hg, hcell⟩ := hat_code (by omega)
      obtain ⟨g', off', rfl, hg', hcell'⟩ := hat_Zcode (by omega)
      obtain ⟨x, hx, _⟩ := at_lt HN_code.out hlt
      obtain ⟨y, hy, _⟩ := at_lt HN_Zcode.out hlt
      have hlt' : (k : Int) < (codeN : Int) := by omega
      obtain ⟨x_op, x_a⟩ := x
      obtain ⟨y_op, y_a⟩ := y
      have c_x_op : w0.cell? ⟨g, off + k * 2, none⟩ = some (.int .i64 x_op) := cell_lit hB0 (by omega) (hcell k 0 _ _ hx (by rw [Ins.pd_mk]; rfl))
      have c_y_op : w0.cell? ⟨g', off' + k * 2, none⟩ = some (.int .i64 y_op) := cell_lit hB0 (by omega) (hcell' k 0 _ _ hy (by rw [Ins.pd_mk]; rfl))
      have c_x_a : w0.cell? ⟨g, off + k * 2 + 1, none⟩ = some (.int .i64 x_a) := cell_lit hB0 (by omega) (hcell k 1 _ _ hx (by rw [Ins.pd_mk]; rfl))
      have c_y_a : w0.cell? ⟨g', off' + k * 2 + 1, none⟩ = some (.int .i64 y_a) := cell_lit hB0 (by omega) (hcell' k 1 _ _ hy (by rw [Ins.pd_mk]; rfl))
      have q1 := eqGuardIns
      have q2 := fun W => neqIns x_op y_op x_a y_a W
      obtain ⟨b, hb⟩ : ∃ b, b = Ins.eqb ⟨x_op, x_a⟩ ⟨y_op, y_a⟩ := ⟨_, rfl⟩
      rw [← hb] at q2
      have HB := Lib.hid hb
      have HX := Lib.hid hx
      have HY := Lib.hid hy
      clear hx hy hcell hcell' hat_code hat_Zcode hb
      cases b
      · have HQ : Hid (same2 Ins.eqb code Zcode = false) := same2_stop HX.out HY.out HB.out.symm
        go_wp2_with fail
        go_quiet (fail)
        go_wp2_with fail
        go_ret
        exact ⟨ret_bool (by rw [HF.out, HQ.out]), by rw [World.drewN_drewN]; exact below_drewN hB0 _⟩
      · have HQ := Lib.hid (same2_next HP.out HX.out HY.out HB.out.symm)
        go_wp2_with fail
        go_quiet (fail)
        go_wp2_with fail
        go_roundw
        case rel => exact ⟨k + 1, by omega, by go_num, HQ, _, rfl⟩
        case measure => simp [intOf]; omega
    · have HQ : Hid (same2 Ins.eqb code Zcode = true) := same2_end hlt HN_code.out HN_Zcode.out HP.out
      have hkn : k = codeN := by omega
      subst hkn
      clear hlt hk
      go_wp2_with fail
      go_ret
      exact ⟨ret_bool (by rw [HF.out, HQ.out]), below_drewN hB0 _⟩
set_option maxHeartbeats 3200000 in
theorem specSameModule_any (x y : Mod) {B : Nat} {cs ds : List Value} {w : World} (hB : B ≤ w.heap.size) (h : RepC w B (Mod.pd x) cs) (k : RepC w B (Mod.pd y) ds) :
    Calls Try.prog 7 #[.agg cs.toArray, .agg ds.toArray] w fun e w' => e = .returned (.bool (modEq x y)) ∧ Below w.heap.size w w' := by
  obtain ⟨pages, imports, cores⟩ := x
  obtain ⟨importsV, coresV, rfl, r_imports, r_cores⟩ := Mod.open_ h
  obtain ⟨importsA, importsN, importsC, rfl⟩ := r_imports.form
  have R_imports := Lib.hid r_imports
  clear r_imports
  obtain ⟨coresA, coresN, coresC, rfl⟩ := r_cores.form
  have R_cores := Lib.hid r_cores
  clear r_cores
  obtain ⟨Zpages, Zimports, Zcores⟩ := y
  obtain ⟨ZimportsV, ZcoresV, rfl, r_Zimports, r_Zcores⟩ := Mod.open_ k
  obtain ⟨ZimportsA, ZimportsN, ZimportsC, rfl⟩ := r_Zimports.form
  have R_Zimports := Lib.hid r_Zimports
  clear r_Zimports
  obtain ⟨ZcoresA, ZcoresN, ZcoresC, rfl⟩ := r_Zcores.form
  have R_Zcores := Lib.hid r_Zcores
  clear r_Zcores
  clear h k
  by_cases h_pages : pages = Zpages
  case neg =>
    have HF : Hid (modEq (⟨pages, imports, cores⟩ : Mod) (⟨Zpages, Zimports, Zcores⟩ : Mod) = false) := by show _ = _; simp [modEq, h_pages]
    have hs : (pages == Zpages) = false := by simpa using h_pages
    have hs2 : (pages != Zpages) = true := by simpa using h_pages
    go_enter Try.func7, Try.ntmps7
    go_wp2_with fail
    go_ret
    exact ⟨ret_bool HF.out.symm, ((Below.refl _ _).alloc (Nat.le_refl _) _).alloc (by simp) _⟩
  subst h_pages
  obtain ⟨_, _, _, he, hn_imports, hm_imports, hat_imports⟩ := rep_row Imp.pd_length (by decide) R_imports.out
  injection he with e1 e2 e3
  subst e1 e2 e3
  unfold maxLen at hm_imports
  have HN_imports := Lib.hid hn_imports
  clear hn_imports
  obtain ⟨_, _, _, he, hn_Zimports, hm_Zimports, hat_Zimports⟩ := rep_row Imp.pd_length (by decide) R_Zimports.out
  injection he with e1 e2 e3
  subst e1 e2 e3
  unfold maxLen at hm_Zimports
  have HN_Zimports := Lib.hid hn_Zimports
  clear hn_Zimports
  obtain ⟨_, _, _, he, hn_cores, hm_cores, hat_cores⟩ := rep_row Core.pd_length (by decide) R_cores.out
  injection he with e1 e2 e3
  subst e1 e2 e3
  unfold maxLen at hm_cores
  have HN_cores := Lib.hid hn_cores
  clear hn_cores
  obtain ⟨_, _, _, he, hn_Zcores, hm_Zcores, hat_Zcores⟩ := rep_row Core.pd_length (by decide) R_Zcores.out
  injection he with e1 e2 e3
  subst e1 e2 e3
  unfold maxLen at hm_Zcores
  have HN_Zcores := Lib.hid hn_Zcores
  clear hn_Zcores
  by_cases hl_imports : importsN = ZimportsN
  case neg =>
    have HF : Hid (modEq (⟨pages, imports, cores⟩ : Mod) (⟨pages, Zimports, Zcores⟩ : Mod) = false) := by show _ = _; rw [modEq]; rw [same2_ne (p := Imp.eqb) (by have := HN_imports.out; have := HN_Zimports.out; omega), Bool.and_false, Bool.false_and]
    have hs : ((importsN : Int) != (ZimportsN : Int)) = true := by simp; omega
    go_enter Try.func7, Try.ntmps7
    go_wp2_with fail
    go_ret
    exact ⟨ret_bool HF.out.symm, ((Below.refl _ _).alloc (Nat.le_refl _) _).alloc (by simp) _⟩
  subst hl_imports
  by_cases hl_cores : coresN = ZcoresN
  case neg =>
    have HF : Hid (modEq (⟨pages, imports, cores⟩ : Mod) (⟨pages, Zimports, Zcores⟩ : Mod) = false) := by show _ = _; rw [modEq]; rw [same2_ne (p := coreEq) (by have := HN_cores.out; have := HN_Zcores.out; omega), Bool.and_false]
    have hs : ((coresN : Int) != (ZcoresN : Int)) = true := by simp; omega
    go_enter Try.func7, Try.ntmps7
    go_wp2_with fail
    go_ret
    exact ⟨ret_bool HF.out.symm, ((Below.refl _ _).alloc (Nat.le_refl _) _).alloc (by simp) _⟩
  subst hl_cores
  have HF : Hid (modEq (⟨pages, imports, cores⟩ : Mod) (⟨pages, Zimports, Zcores⟩ : Mod) = (same2 Imp.eqb imports Zimports && same2 coreEq cores Zcores)) := by show _ = _; simp [modEq]
  obtain ⟨w0, hw0⟩ : ∃ W, W = (w.alloc (.cells #[.int .i64 pages, .slice importsA importsN importsC, .slice coresA coresN coresC] 31)).alloc (.cells #[.int .i64 pages, .slice ZimportsA importsN ZimportsC, .slice ZcoresA coresN ZcoresC] 31) := ⟨_, rfl⟩
  have bA : Blk w0 w.heap.size 31 #[.int .i64 pages, .slice importsA importsN importsC, .slice coresA coresN coresC] := by rw [hw0]; exact (Blk.new w _ _).alloc _
  have bC : Blk w0 (w.heap.size + 1) 31 #[.int .i64 pages, .slice ZimportsA importsN ZimportsC, .slice ZcoresA coresN ZcoresC] := by rw [hw0]; have := Blk.new (w.alloc (.cells #[.int .i64 pages, .slice importsA importsN importsC, .slice coresA coresN coresC] 31)) 31 #[.int .i64 pages, .slice ZimportsA importsN ZimportsC, .slice ZcoresA coresN ZcoresC]; simpa using this
  have hB0 : Below w.heap.size w w0 := by rw [hw0]; exact ((Below.refl _ _).alloc (Nat.le_refl _) _).alloc (by simp) _
  have hs0 := hB0.size
  have a1 : w0.cell? ⟨w.heap.size, 1, none⟩ = some (.slice importsA importsN importsC) := bA.cell 1
  have a2 : w0.cell? ⟨w.heap.size + 1, 1, none⟩ = some (.slice ZimportsA importsN ZimportsC) := bC.cell 1
  have a3 : w0.cell? ⟨w.heap.size, 2, none⟩ = some (.slice coresA coresN coresC) := bA.cell 2
  have a4 : w0.cell? ⟨w.heap.size + 1, 2, none⟩ = some (.slice ZcoresA coresN ZcoresC) := bC.cell 2
  go_enter Try.func7, Try.ntmps7
  go_wp2_with fail
  rw [← hw0]
  clear hw0
  go_loopw [5] (fun i wr => ∃ k : Nat, k ≤ importsN ∧ i = .int .i64 k ∧ Hid (∀ (j : Nat) (a b : Imp), j < k → imports[j]? = some a → Zimports[j]? = some b → Imp.eqb a b = true) ∧ ∃ q, wr = w0.drewN q) (fun i _ => importsN - (intOf i).toNat)
  case atStart => exact ⟨0, Nat.zero_le _, rfl, Lib.hid fun j a b h => absurd h (by omega), 0, rfl⟩
  case round =>
    obtain ⟨k, hk, rfl, HP, q, rfl⟩ := hrel
    by_cases hlt : k < importsN
    · obtain ⟨g, off, rfl, hg, hcell⟩ := hat_imports (by omega)
      obtain ⟨g', off', rfl, hg', hcell'⟩ := hat_Zimports (by omega)
      obtain ⟨x, hx, _⟩ := at_lt HN_imports.out hlt
      obtain ⟨y, hy, _⟩ := at_lt HN_Zimports.out hlt
      have hlt' : (k : Int) < (importsN : Int) := by omega
      obtain ⟨x_name, x_params, x_result⟩ := x
      obtain ⟨y_name, y_params, y_result⟩ := y
      have c_x_name : w0.cell? ⟨g, off + k * 3, none⟩ = some (.string x_name) := cell_lit hB0 (by omega) (hcell k 0 _ _ hx (by rw [Imp.pd_mk]; rfl))
      have c_y_name : w0.cell? ⟨g', off' + k * 3, none⟩ = some (.string y_name) := cell_lit hB0 (by omega) (hcell' k 0 _ _ hy (by rw [Imp.pd_mk]; rfl))
      have c_x_params : w0.cell? ⟨g, off + k * 3 + 1, none⟩ = some (.int .i64 x_params) := cell_lit hB0 (by omega) (hcell k 1 _ _ hx (by rw [Imp.pd_mk]; rfl))
      have c_y_params : w0.cell? ⟨g', off' + k * 3 + 1, none⟩ = some (.int .i64 y_params) := cell_lit hB0 (by omega) (hcell' k 1 _ _ hy (by rw [Imp.pd_mk]; rfl))
      have c_x_result : w0.cell? ⟨g, off + k * 3 + 2, none⟩ = some (.bool x_result) := cell_lit hB0 (by omega) (hcell k 2 _ _ hx (by rw [Imp.pd_mk]; rfl))
      have c_y_result : w0.cell? ⟨g', off' + k * 3 + 2, none⟩ = some (.bool y_result) := cell_lit hB0 (by omega) (hcell' k 2 _ _ hy (by rw [Imp.pd_mk]; rfl))
      have q1 := eqGuardImport
      have q2 := fun W => neqImport x_name y_name x_params y_params x_result y_result W
      obtain ⟨b, hb⟩ : ∃ b, b = Imp.eqb ⟨x_name, x_params, x_result⟩ ⟨y_name, y_params, y_result⟩ := ⟨_, rfl⟩
      rw [← hb] at q2
      have HB := Lib.hid hb
      have HX := Lib.hid hx
      have HY := Lib.hid hy
      clear hx hy hcell hcell' hat_imports hat_Zimports hb
      cases b
      · have HQ : Hid (same2 Imp.eqb imports Zimports = false) := same2_stop HX.out HY.out HB.out.symm
        go_wp2_with fail
        go_quiet (fail)
        go_wp2_with fail
        go_ret
        exact ⟨ret_bool (by rw [HF.out, HQ.out, Bool.false_and]), by rw [World.drewN_drewN]; exact below_drewN hB0 _⟩
      · have HQ := Lib.hid (same2_next HP.out HX.out HY.out HB.out.symm)
        go_wp2_with fail
        go_quiet (fail)
        go_wp2_with fail
        go_roundw
        case rel => exact ⟨k + 1, by omega, by go_num, HQ, _, rfl⟩
        case measure => simp [intOf]; omega
    · have HQ : Hid (same2 Imp.eqb imports Zimports = true) := same2_end hlt HN_imports.out HN_Zimports.out HP.out
      have hkn : k = importsN := by omega
      subst hkn
      clear hlt hk
      go_wp2_with fail
      go_loopw [6] (fun i wr => ∃ k : Nat, k ≤ coresN ∧ i = .int .i64 k ∧ Hid (∀ (j : Nat) (a b : Core), j < k → cores[j]? = some a → Zcores[j]? = some b → coreEq a b = true) ∧ Below w0.heap.size w0 wr) (fun i _ => coresN - (intOf i).toNat)
      case atStart => exact ⟨0, Nat.zero_le _, rfl, Lib.hid fun j a b h => absurd h (by omega), below_drewN (Below.refl _ _) _⟩
      case round =>
        clear a1 a2 a3 a4
        obtain ⟨k, hk, rfl, HP2, hbr⟩ := hrel
        have hBr := hB0.trans (hbr.mono hs0)
        have hsz := hbr.size
        have hA := bA.lt
        have hC := bC.lt
        have a3 : wr.cell? ⟨w.heap.size, 2, none⟩ = some (.slice coresA coresN coresC) := (bA.step hbr).cell 2
        have a4 : wr.cell? ⟨w.heap.size + 1, 2, none⟩ = some (.slice ZcoresA coresN ZcoresC) := (bC.step hbr).cell 2
        by_cases hlt : k < coresN
        · obtain ⟨g, off, rfl, hg, hcell⟩ := hat_cores (by omega)
          obtain ⟨g', off', rfl, hg', hcell'⟩ := hat_Zcores (by omega)
          obtain ⟨x, hx, _⟩ := at_lt HN_cores.out hlt
          obtain ⟨y, hy, _⟩ := at_lt HN_Zcores.out hlt
          have hlt' : (k : Int) < (coresN : Int) := by omega
          obtain ⟨x_name, x_params, x_locals, x_result, x_code⟩ := x
          obtain ⟨y_name, y_params, y_locals, y_result, y_code⟩ := y
          have c_x_name : wr.cell? ⟨g, off + k * 5, none⟩ = some (.string x_name) := cell_lit hBr (by omega) (hcell k 0 _ _ hx (by rw [Core.pd_mk]; rfl))
          have c_y_name : wr.cell? ⟨g', off' + k * 5, none⟩ = some (.string y_name) := cell_lit hBr (by omega) (hcell' k 0 _ _ hy (by rw [Core.pd_mk]; rfl))
          have c_x_params : wr.cell? ⟨g, off + k * 5 + 1, none⟩ = some (.int .i64 x_params) := cell_lit hBr (by omega) (hcell k 1 _ _ hx (by rw [Core.pd_mk]; rfl))
          have c_y_params : wr.cell? ⟨g', off' + k * 5 + 1, none⟩ = some (.int .i64 y_params) := cell_lit hBr (by omega) (hcell' k 1 _ _ hy (by rw [Core.pd_mk]; rfl))
          have c_x_locals : wr.cell? ⟨g, off + k * 5 + 2, none⟩ = some (.int .i64 x_locals) := cell_lit hBr (by omega) (hcell k 2 _ _ hx (by rw [Core.pd_mk]; rfl))
          have c_y_locals : wr.cell? ⟨g', off' + k * 5 + 2, none⟩ = some (.int .i64 y_locals) := cell_lit hBr (by omega) (hcell' k 2 _ _ hy (by rw [Core.pd_mk]; rfl))
          have c_x_result : wr.cell? ⟨g, off + k * 5 + 3, none⟩ = some (.bool x_result) := cell_lit hBr (by omega) (hcell k 3 _ _ hx (by rw [Core.pd_mk]; rfl))
          have c_y_result : wr.cell? ⟨g', off' + k * 5 + 3, none⟩ = some (.bool y_result) := cell_lit hBr (by omega) (hcell' k 3 _ _ hy (by rw [Core.pd_mk]; rfl))
          obtain ⟨x_codeV, c_x_code, r_x_code⟩ : ∃ u, wr.cell? ⟨g, off + k * 5 + 4, none⟩ = some u ∧ Rep wr B (.row 2 (x_code.flatMap Ins.pd)) u := cell_rep hBr (by omega) hB (hcell k 4 _ _ hx (by rw [Core.pd_mk]; rfl))
          have R_x_code := Lib.hid r_x_code
          clear r_x_code
          obtain ⟨y_codeV, c_y_code, r_y_code⟩ : ∃ u, wr.cell? ⟨g', off' + k * 5 + 4, none⟩ = some u ∧ Rep wr B (.row 2 (y_code.flatMap Ins.pd)) u := cell_rep hBr (by omega) hB (hcell' k 4 _ _ hy (by rw [Core.pd_mk]; rfl))
          have R_y_code := Lib.hid r_y_code
          clear r_y_code
          have CC := Lib.hid (specSameCore_any ⟨x_name, x_params, x_locals, x_result, x_code⟩ ⟨y_name, y_params, y_locals, y_result, y_code⟩ (B := B) (cs := [.string x_name, .int .i64 x_params, .int .i64 x_locals, .bool x_result, x_codeV]) (ds := [.string y_name, .int .i64 y_params, .int .i64 y_locals, .bool y_result, y_codeV]) (w := wr.drew) (Nat.le_trans hB hBr.size) ((Core.close_ R_x_code.out).below (Below.refl _ _).drew) ((Core.close_ R_y_code.out).below (Below.refl _ _).drew))
          have HX := Lib.hid hx
          have HY := Lib.hid hy
          clear hx hy hcell hcell' hat_cores hat_Zcores hat_imports hat_Zimports
          go_wp2_with fail
          go_region_held3 (fun w' => w'.cell? ⟨w.heap.size, 2, none⟩ = some (.slice (some ⟨g, off, none⟩) coresN coresC) ∧ w'.cell? ⟨w.heap.size + 1, 2, none⟩ = some (.slice (some ⟨g', off', none⟩) coresN ZcoresC) ∧ w'.cell? ⟨g, off + k * 5, none⟩ = some (.string x_name) ∧ w'.cell? ⟨g', off' + k * 5, none⟩ = some (.string y_name) ∧ w'.cell? ⟨g, off + k * 5 + 1, none⟩ = some (.int .i64 x_params) ∧ w'.cell? ⟨g', off' + k * 5 + 1, none⟩ = some (.int .i64 y_params) ∧ w'.cell? ⟨g, off + k * 5 + 2, none⟩ = some (.int .i64 x_locals) ∧ w'.cell? ⟨g', off' + k * 5 + 2, none⟩ = some (.int .i64 y_locals) ∧ w'.cell? ⟨g, off + k * 5 + 3, none⟩ = some (.bool x_result) ∧ w'.cell? ⟨g', off' + k * 5 + 3, none⟩ = some (.bool y_result) ∧ w'.cell? ⟨g, off + k * 5 + 4, none⟩ = some (x_codeV) ∧ w'.cell? ⟨g', off' + k * 5 + 4, none⟩ = some (y_codeV))
            (first | go_keep | exact ⟨(hb9.cell (p := ⟨w.heap.size, 2, none⟩) (by show w.heap.size < wr.heap.size; omega)).trans a3, (hb9.cell (p := ⟨w.heap.size + 1, 2, none⟩) (by show w.heap.size + 1 < wr.heap.size; omega)).trans a4, (hb9.cell (p := ⟨g, off + k * 5, none⟩) (by show g < wr.heap.size; omega)).trans c_x_name, (hb9.cell (p := ⟨g', off' + k * 5, none⟩) (by show g' < wr.heap.size; omega)).trans c_y_name, (hb9.cell (p := ⟨g, off + k * 5 + 1, none⟩) (by show g < wr.heap.size; omega)).trans c_x_params, (hb9.cell (p := ⟨g', off' + k * 5 + 1, none⟩) (by show g' < wr.heap.size; omega)).trans c_y_params, (hb9.cell (p := ⟨g, off + k * 5 + 2, none⟩) (by show g < wr.heap.size; omega)).trans c_x_locals, (hb9.cell (p := ⟨g', off' + k * 5 + 2, none⟩) (by show g' < wr.heap.size; omega)).trans c_y_locals, (hb9.cell (p := ⟨g, off + k * 5 + 3, none⟩) (by show g < wr.heap.size; omega)).trans c_x_result, (hb9.cell (p := ⟨g', off' + k * 5 + 3, none⟩) (by show g' < wr.heap.size; omega)).trans c_y_result, (hb9.cell (p := ⟨g, off + k * 5 + 4, none⟩) (by show g < wr.heap.size; omega)).trans c_x_code, (hb9.cell (p := ⟨g', off' + k * 5 + 4, none⟩) (by show g' < wr.heap.size; omega)).trans c_y_code⟩)
            (first | (go_at_call 27; refine CC.out.mono ?_; rintro e w9 ⟨rfl, hb9'⟩; have hb9 : Below wr.heap.size wr w9 := (Below.refl _ _).drew.trans hb9'))
          have hB9 := hBr.trans (hb9.mono hBr.size)
          have hb9w := hbr.trans (hb9.mono hsz)
          cases hbq : coreEq ⟨x_name, x_params, x_locals, x_result, x_code⟩ ⟨y_name, y_params, y_locals, y_result, y_code⟩
          · have HQ2 : Hid (same2 coreEq cores Zcores = false) := same2_stop HX.out HY.out hbq
            go_wp2_with fail
            go_ret
            exact ⟨ret_bool (by rw [HF.out, HQ2.out, Bool.and_false]), hB9⟩
          · have HQ2 := Lib.hid (same2_next HP2.out HX.out HY.out hbq)
            go_wp2_with fail
            go_roundw
            case rel => exact ⟨k + 1, by omega, by go_num, HQ2, hb9w⟩
            case measure => simp [intOf]; omega
        · have HQ2 : Hid (same2 coreEq cores Zcores = true) := same2_end hlt HN_cores.out HN_Zcores.out HP2.out
          have hkn : k = coresN := by omega
          subst hkn
          go_wp2_with fail
          go_ret
          exact ⟨ret_bool (by rw [HF.out, HQ.out, HQ2.out]; rfl), hBr⟩
theorem specSameModule_ok (x y : Mod) (_ : PD.wfL (Mod.pd x)) (_ : PD.szL (Mod.pd x) ≤ 1048576) (_ : PD.wfL (Mod.pd y)) (_ : PD.szL (Mod.pd y) ≤ 1048576) : ∀ (B : Nat) (cs ds : List Value) (w : World), B ≤ w.heap.size → RepC w B (Mod.pd x) cs → RepC w B (Mod.pd y) ds →
    Calls Try.prog 7 #[.agg cs.toArray, .agg ds.toArray] w fun e w' => e = .returned (.bool (modEq x y)) ∧ Below w.heap.size w w' := fun B cs ds w hB h k => specSameModule_any x y hB h k
theorem implSameModule_ok (x y : Mod) (_ : PD.wfL (Mod.pd x)) (_ : PD.szL (Mod.pd x) ≤ 1048576) (_ : PD.wfL (Mod.pd y)) (_ : PD.szL (Mod.pd y) ≤ 1048576) : ∀ (B : Nat) (cs ds : List Value) (w : World), B ≤ w.heap.size → RepC w B (Mod.pd x) cs → RepC w B (Mod.pd y) ds →
    Calls Try.prog 9 #[.agg cs.toArray, .agg ds.toArray] w fun e w' => e = .returned (.bool (modEq x y)) ∧ Below w.heap.size w w' := fun B cs ds w hB h k => implSameModule_any x y hB h k
end Go.Proofs.Ytnedcpoengcbaaa
