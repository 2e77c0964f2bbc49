/-
  The laws' own helpers 'eq..' over the program's types (by program: tygen2.py, tyfam.py).
-/
import Derived.Test.YtflpfcnpjadccaaGreatDoorFam
import Derived.Test.YtflpfcnpjadccaaGreatDoorTy
namespace Go.Proofs.YtflpfcnpjadccaaGreatDoor
open Go.RowKit
set_option linter.unusedVariables false
set_option linter.unusedSimpArgs false
set_option linter.unnecessarySimpa false
set_option maxRecDepth 100000















set_option maxHeartbeats 1600000 in
theorem eqIns_step {op : Int} {a : Int} : EqC 106 (Ins.pd ⟨op, a⟩) := by
  intro B cs us w hB h h'
  obtain rfl := Ins.open_ h
  obtain rfl := Ins.open_ h'
  go_enter Tryz.func106, Tryz.ntmps106
  go_wp2_with fail
  go_ret
  exact ⟨rfl, ((Below.refl _ _).alloc (Nat.le_refl _) _).alloc (by simp) _⟩
theorem eqIns_all (t : Ins) : EqC 106 (Ins.pd t) := by obtain ⟨op, a⟩ := t; exact eqIns_step 

set_option maxHeartbeats 1600000 in
theorem eqImport_step {name : ByteArray} {params : Int} {result : Bool} : EqC 54 (Imp.pd ⟨name, params, result⟩) := by
  intro B cs us w hB h h'
  obtain rfl := Imp.open_ h
  obtain rfl := Imp.open_ h'
  go_enter Tryz.func54, Tryz.ntmps54
  go_wp2_with fail
  go_ret
  exact ⟨rfl, ((Below.refl _ _).alloc (Nat.le_refl _) _).alloc (by simp) _⟩
theorem eqImport_all (t : Imp) : EqC 54 (Imp.pd t) := by obtain ⟨name, params, result⟩ := t; exact eqImport_step 

set_option maxHeartbeats 1600000 in
theorem eqInsS_step {ts : List Ins} (ih : ∀ t ∈ ts, EqC 106 (Ins.pd t)) : EqR 84 (.row 2 (ts.flatMap Ins.pd)) := by
  intro B v u w hB h h'
  obtain ⟨A, n, c, rfl, hnl, hm, hat⟩ := rep_row Ins.pd_length (by decide) h
  obtain ⟨A', n', c', rfl, hnl', _, hat'⟩ := rep_row Ins.pd_length (by decide) h'
  have hnn : n' = n := by omega
  subst hnn
  unfold maxLen at hm
  have HN := Lib.hid hnl
  have HI := Lib.hid ih
  clear ih
  clear h h' hnl hnl'
  go_enter Tryz.func84, Tryz.ntmps84
  go_wp2_with fail
  go_loopw [5] (fun i wr => ∃ k : Nat, k ≤ n' ∧ i = .int .i64 k ∧ Below w.heap.size w wr) (fun i _ => n' - (intOf i).toNat)
  case atStart => exact ⟨0, Nat.zero_le _, rfl, Below.refl _ _⟩
  case round =>
    obtain ⟨k, hk, rfl, hbr⟩ := hrel
    by_cases hlt : k < n'
    · obtain ⟨g, off, rfl, hg, hcell⟩ := hat (by omega)
      obtain ⟨g', off', rfl, hg', hcell'⟩ := hat' (by omega)
      obtain ⟨t, hx, hmem⟩ := at_lt HN.out hlt
      obtain ⟨op, a⟩ := t
      have c0 : wr.cell? ⟨g, off + k * 2, none⟩ = some (.int .i64 op) := cell_lit hbr (by omega) (hcell k 0 _ _ hx (by rw [Ins.pd_mk]; rfl))
      have c1 : wr.cell? ⟨g, off + k * 2 + 1, none⟩ = some (.int .i64 a) := cell_lit hbr (by omega) (hcell k 1 _ _ hx (by rw [Ins.pd_mk]; rfl))
      have d0' : wr.cell? ⟨g', off' + k * 2, none⟩ = some (.int .i64 op) := cell_lit hbr (by omega) (hcell' k 0 _ _ hx (by rw [Ins.pd_mk]; rfl))
      have d1' : wr.cell? ⟨g', off' + k * 2 + 1, none⟩ = some (.int .i64 a) := cell_lit hbr (by omega) (hcell' k 1 _ _ hx (by rw [Ins.pd_mk]; rfl))
      have hlt' : (k : Int) < (n' : Int) := by omega
      have hgw : g < wr.heap.size := by have := hbr.size; omega
      have hgw' : g' < wr.heap.size := by have := hbr.size; omega
      have HM := Lib.hid hmem
      have HBW := Lib.hid (Nat.le_trans hB hbr.size)
      clear hx hcell hcell' hmem
      go_wp2_with fail
      have HC := Lib.hid (HI.out _ HM.out B [.int .i64 op, .int .i64 a] [.int .i64 op, .int .i64 a] wr.drew HBW.out (Ins.close_) (Ins.close_))
      go_region_held3 (fun w' => w'.cell? ⟨g, off + k * 2, none⟩ = some (.int .i64 op) ∧ w'.cell? ⟨g, off + k * 2 + 1, none⟩ = some (.int .i64 a) ∧ w'.cell? ⟨g', off' + k * 2, none⟩ = some (.int .i64 op) ∧ w'.cell? ⟨g', off' + k * 2 + 1, none⟩ = some (.int .i64 a))
        (first | go_keep | exact ⟨(hbq.cell (p := ⟨g, off + k * 2, none⟩) hgw).trans c0, (hbq.cell (p := ⟨g, off + k * 2 + 1, none⟩) hgw).trans c1, (hbq.cell (p := ⟨g', off' + k * 2, none⟩) hgw').trans d0', (hbq.cell (p := ⟨g', off' + k * 2 + 1, none⟩) hgw').trans d1'⟩)
        (first | (go_at_call 106; refine HC.out.mono ?_; rintro e wq ⟨rfl, hbq⟩))
      have hbn : Below w.heap.size w wq := hbr.drew.trans (hbq.mono hbr.size)
      clear hbq hbr c0 c1 d0' d1'
      go_wp2_with fail
      go_roundw
      case rel => exact ⟨k + 1, by omega, by go_num, hbn⟩
      case measure => simp [intOf]; omega
    · have hkn : k = n' := by omega
      subst hkn
      go_wp2_with fail
      go_ret
      exact ⟨rfl, hbr⟩
theorem eqInsS_all (ts : List Ins) : EqR 84 (.row 2 (ts.flatMap Ins.pd)) := eqInsS_step fun t _ => eqIns_all t

set_option maxHeartbeats 1600000 in
theorem eqCore_step {name : ByteArray} {params : Int} {locals : Int} {result : Bool} {code : List Ins} (ih_code : EqR 84 (.row 2 (code.flatMap Ins.pd))) : EqC 55 (Core.pd ⟨name, params, locals, result, code⟩) := by
  intro B cs us w hB h h'
  obtain ⟨codeV, rfl, r_code⟩ := Core.open_ h
  obtain ⟨codeV', rfl, s_code⟩ := Core.open_ h'
  have R_code := Lib.hid r_code
  have S_code := Lib.hid s_code
  clear r_code s_code
  go_enter Tryz.func55, Tryz.ntmps55
  go_wp2_with fail
  obtain ⟨w0, hw0⟩ : ∃ w0, w0 = (w.alloc (.cells #[.string name, .int .i64 params, .int .i64 locals, .bool result, codeV] 51)).alloc (.cells #[.string name, .int .i64 params, .int .i64 locals, .bool result, codeV'] 51) := ⟨_, rfl⟩
  rw [← hw0]
  have bA : Blk w0 w.heap.size 51 #[.string name, .int .i64 params, .int .i64 locals, .bool result, codeV] := by rw [hw0]; exact (Blk.new w _ _).alloc _
  have bB : Blk w0 (w.heap.size + 1) 51 #[.string name, .int .i64 params, .int .i64 locals, .bool result, codeV'] := by rw [hw0]; have := Blk.new (w.alloc (.cells #[.string name, .int .i64 params, .int .i64 locals, .bool result, codeV] 51)) 51 #[.string name, .int .i64 params, .int .i64 locals, .bool result, codeV']; simpa using this
  have hB0 : Below w.heap.size w w0 := by rw [hw0]; exact ((Below.refl _ _).alloc (Nat.le_refl _) _).alloc (by simp) _
  clear hw0
  refine (ih_code B codeV codeV' _ (by have := hB0.size; omega) (R_code.out.below (hB0.mono hB)) (S_code.out.below (hB0.mono hB))).mono ?_
  rintro e w1 ⟨rfl, hb1⟩
  have hB1 := hB0.trans (hb1.mono hB0.size)
  replace bA := bA.step hb1
  replace bB := bB.step hb1
  go_wp2_with fail
  go_ret
  exact ⟨rfl, hB1⟩
theorem eqCore_all (t : Core) : EqC 55 (Core.pd t) := by obtain ⟨name, params, locals, result, code⟩ := t; exact eqCore_step (eqInsS_all code)

set_option maxHeartbeats 1600000 in
theorem eqImportS_step {ts : List Imp} (ih : ∀ t ∈ ts, EqC 54 (Imp.pd t)) : EqR 22 (.row 3 (ts.flatMap Imp.pd)) := by
  intro B v u w hB h h'
  obtain ⟨A, n, c, rfl, hnl, hm, hat⟩ := rep_row Imp.pd_length (by decide) h
  obtain ⟨A', n', c', rfl, hnl', _, hat'⟩ := rep_row Imp.pd_length (by decide) h'
  have hnn : n' = n := by omega
  subst hnn
  unfold maxLen at hm
  have HN := Lib.hid hnl
  have HI := Lib.hid ih
  clear ih
  clear h h' hnl hnl'
  go_enter Tryz.func22, Tryz.ntmps22
  go_wp2_with fail
  go_loopw [5] (fun i wr => ∃ k : Nat, k ≤ n' ∧ i = .int .i64 k ∧ Below w.heap.size w wr) (fun i _ => n' - (intOf i).toNat)
  case atStart => exact ⟨0, Nat.zero_le _, rfl, Below.refl _ _⟩
  case round =>
    obtain ⟨k, hk, rfl, hbr⟩ := hrel
    by_cases hlt : k < n'
    · obtain ⟨g, off, rfl, hg, hcell⟩ := hat (by omega)
      obtain ⟨g', off', rfl, hg', hcell'⟩ := hat' (by omega)
      obtain ⟨t, hx, hmem⟩ := at_lt HN.out hlt
      obtain ⟨name, params, result⟩ := t
      have c0 : wr.cell? ⟨g, off + k * 3, none⟩ = some (.string name) := cell_lit hbr (by omega) (hcell k 0 _ _ hx (by rw [Imp.pd_mk]; rfl))
      have c1 : wr.cell? ⟨g, off + k * 3 + 1, none⟩ = some (.int .i64 params) := cell_lit hbr (by omega) (hcell k 1 _ _ hx (by rw [Imp.pd_mk]; rfl))
      have c2 : wr.cell? ⟨g, off + k * 3 + 2, none⟩ = some (.bool result) := cell_lit hbr (by omega) (hcell k 2 _ _ hx (by rw [Imp.pd_mk]; rfl))
      have d0' : wr.cell? ⟨g', off' + k * 3, none⟩ = some (.string name) := cell_lit hbr (by omega) (hcell' k 0 _ _ hx (by rw [Imp.pd_mk]; rfl))
      have d1' : wr.cell? ⟨g', off' + k * 3 + 1, none⟩ = some (.int .i64 params) := cell_lit hbr (by omega) (hcell' k 1 _ _ hx (by rw [Imp.pd_mk]; rfl))
      have d2' : wr.cell? ⟨g', off' + k * 3 + 2, none⟩ = some (.bool result) := cell_lit hbr (by omega) (hcell' k 2 _ _ hx (by rw [Imp.pd_mk]; rfl))
      have hlt' : (k : Int) < (n' : Int) := by omega
      have hgw : g < wr.heap.size := by have := hbr.size; omega
      have hgw' : g' < wr.heap.size := by have := hbr.size; omega
      have HM := Lib.hid hmem
      have HBW := Lib.hid (Nat.le_trans hB hbr.size)
      clear hx hcell hcell' hmem
      go_wp2_with fail
      have HC := Lib.hid (HI.out _ HM.out B [.string name, .int .i64 params, .bool result] [.string name, .int .i64 params, .bool result] wr.drew HBW.out (Imp.close_) (Imp.close_))
      go_region_held3 (fun w' => w'.cell? ⟨g, off + k * 3, none⟩ = some (.string name) ∧ w'.cell? ⟨g, off + k * 3 + 1, none⟩ = some (.int .i64 params) ∧ w'.cell? ⟨g, off + k * 3 + 2, none⟩ = some (.bool result) ∧ w'.cell? ⟨g', off' + k * 3, none⟩ = some (.string name) ∧ w'.cell? ⟨g', off' + k * 3 + 1, none⟩ = some (.int .i64 params) ∧ w'.cell? ⟨g', off' + k * 3 + 2, none⟩ = some (.bool result))
        (first | go_keep | exact ⟨(hbq.cell (p := ⟨g, off + k * 3, none⟩) hgw).trans c0, (hbq.cell (p := ⟨g, off + k * 3 + 1, none⟩) hgw).trans c1, (hbq.cell (p := ⟨g, off + k * 3 + 2, none⟩) hgw).trans c2, (hbq.cell (p := ⟨g', off' + k * 3, none⟩) hgw').trans d0', (hbq.cell (p := ⟨g', off' + k * 3 + 1, none⟩) hgw').trans d1', (hbq.cell (p := ⟨g', off' + k * 3 + 2, none⟩) hgw').trans d2'⟩)
        (first | (go_at_call 54; refine HC.out.mono ?_; rintro e wq ⟨rfl, hbq⟩))
      have hbn : Below w.heap.size w wq := hbr.drew.trans (hbq.mono hbr.size)
      clear hbq hbr c0 c1 c2 d0' d1' d2'
      go_wp2_with fail
      go_roundw
      case rel => exact ⟨k + 1, by omega, by go_num, hbn⟩
      case measure => simp [intOf]; omega
    · have hkn : k = n' := by omega
      subst hkn
      go_wp2_with fail
      go_ret
      exact ⟨rfl, hbr⟩
theorem eqImportS_all (ts : List Imp) : EqR 22 (.row 3 (ts.flatMap Imp.pd)) := eqImportS_step fun t _ => eqImport_all t

set_option maxHeartbeats 1600000 in
theorem eqCoreS_step {ts : List Core} (ih : ∀ t ∈ ts, EqC 55 (Core.pd t)) : EqR 23 (.row 5 (ts.flatMap Core.pd)) := by
  intro B v u w hB h h'
  obtain ⟨A, n, c, rfl, hnl, hm, hat⟩ := rep_row Core.pd_length (by decide) h
  obtain ⟨A', n', c', rfl, hnl', _, hat'⟩ := rep_row Core.pd_length (by decide) h'
  have hnn : n' = n := by omega
  subst hnn
  unfold maxLen at hm
  have HN := Lib.hid hnl
  have HI := Lib.hid ih
  clear ih
  clear h h' hnl hnl'
  go_enter Tryz.func23, Tryz.ntmps23
  go_wp2_with fail
  go_loopw [5] (fun i wr => ∃ k : Nat, k ≤ n' ∧ i = .int .i64 k ∧ Below w.heap.size w wr) (fun i _ => n' - (intOf i).toNat)
  case atStart => exact ⟨0, Nat.zero_le _, rfl, Below.refl _ _⟩
  case round =>
    obtain ⟨k, hk, rfl, hbr⟩ := hrel
    by_cases hlt : k < n'
    · obtain ⟨g, off, rfl, hg, hcell⟩ := hat (by omega)
      obtain ⟨g', off', rfl, hg', hcell'⟩ := hat' (by omega)
      obtain ⟨t, hx, hmem⟩ := at_lt HN.out hlt
      obtain ⟨name, params, locals, result, code⟩ := t
      have c0 : wr.cell? ⟨g, off + k * 5, none⟩ = some (.string name) := cell_lit hbr (by omega) (hcell k 0 _ _ hx (by rw [Core.pd_mk]; rfl))
      have c1 : wr.cell? ⟨g, off + k * 5 + 1, none⟩ = some (.int .i64 params) := cell_lit hbr (by omega) (hcell k 1 _ _ hx (by rw [Core.pd_mk]; rfl))
      have c2 : wr.cell? ⟨g, off + k * 5 + 2, none⟩ = some (.int .i64 locals) := cell_lit hbr (by omega) (hcell k 2 _ _ hx (by rw [Core.pd_mk]; rfl))
      have c3 : wr.cell? ⟨g, off + k * 5 + 3, none⟩ = some (.bool result) := cell_lit hbr (by omega) (hcell k 3 _ _ hx (by rw [Core.pd_mk]; rfl))
      obtain ⟨codeV, c4, hr4⟩ : ∃ u, wr.cell? ⟨g, off + k * 5 + 4, none⟩ = some u ∧ Rep wr B (.row 2 (code.flatMap Ins.pd)) u := cell_rep hbr (by omega) hB (hcell k 4 _ _ hx (by rw [Core.pd_mk]; rfl))
      have HR4 := Lib.hid hr4
      clear hr4
      have d0' : wr.cell? ⟨g', off' + k * 5, none⟩ = some (.string name) := cell_lit hbr (by omega) (hcell' k 0 _ _ hx (by rw [Core.pd_mk]; rfl))
      have d1' : wr.cell? ⟨g', off' + k * 5 + 1, none⟩ = some (.int .i64 params) := cell_lit hbr (by omega) (hcell' k 1 _ _ hx (by rw [Core.pd_mk]; rfl))
      have d2' : wr.cell? ⟨g', off' + k * 5 + 2, none⟩ = some (.int .i64 locals) := cell_lit hbr (by omega) (hcell' k 2 _ _ hx (by rw [Core.pd_mk]; rfl))
      have d3' : wr.cell? ⟨g', off' + k * 5 + 3, none⟩ = some (.bool result) := cell_lit hbr (by omega) (hcell' k 3 _ _ hx (by rw [Core.pd_mk]; rfl))
      obtain ⟨codeV', d4', hr4'⟩ : ∃ u, wr.cell? ⟨g', off' + k * 5 + 4, none⟩ = some u ∧ Rep wr B (.row 2 (code.flatMap Ins.pd)) u := cell_rep hbr (by omega) hB (hcell' k 4 _ _ hx (by rw [Core.pd_mk]; rfl))
      have HQ4' := Lib.hid hr4'
      clear hr4'
      have hlt' : (k : Int) < (n' : Int) := by omega
      have hgw : g < wr.heap.size := by have := hbr.size; omega
      have hgw' : g' < wr.heap.size := by have := hbr.size; omega
      have HM := Lib.hid hmem
      have HBW := Lib.hid (Nat.le_trans hB hbr.size)
      clear hx hcell hcell' hmem
      go_wp2_with fail
      have HC := Lib.hid (HI.out _ HM.out B [.string name, .int .i64 params, .int .i64 locals, .bool result, codeV] [.string name, .int .i64 params, .int .i64 locals, .bool result, codeV'] wr.drew HBW.out (Core.close_ HR4.out.drew) (Core.close_ HQ4'.out.drew))
      go_region_held3 (fun w' => w'.cell? ⟨g, off + k * 5, none⟩ = some (.string name) ∧ w'.cell? ⟨g, off + k * 5 + 1, none⟩ = some (.int .i64 params) ∧ w'.cell? ⟨g, off + k * 5 + 2, none⟩ = some (.int .i64 locals) ∧ w'.cell? ⟨g, off + k * 5 + 3, none⟩ = some (.bool result) ∧ w'.cell? ⟨g, off + k * 5 + 4, none⟩ = some (codeV) ∧ w'.cell? ⟨g', off' + k * 5, none⟩ = some (.string name) ∧ w'.cell? ⟨g', off' + k * 5 + 1, none⟩ = some (.int .i64 params) ∧ w'.cell? ⟨g', off' + k * 5 + 2, none⟩ = some (.int .i64 locals) ∧ w'.cell? ⟨g', off' + k * 5 + 3, none⟩ = some (.bool result) ∧ w'.cell? ⟨g', off' + k * 5 + 4, none⟩ = some (codeV'))
        (first | go_keep | exact ⟨(hbq.cell (p := ⟨g, off + k * 5, none⟩) hgw).trans c0, (hbq.cell (p := ⟨g, off + k * 5 + 1, none⟩) hgw).trans c1, (hbq.cell (p := ⟨g, off + k * 5 + 2, none⟩) hgw).trans c2, (hbq.cell (p := ⟨g, off + k * 5 + 3, none⟩) hgw).trans c3, (hbq.cell (p := ⟨g, off + k * 5 + 4, none⟩) hgw).trans c4, (hbq.cell (p := ⟨g', off' + k * 5, none⟩) hgw').trans d0', (hbq.cell (p := ⟨g', off' + k * 5 + 1, none⟩) hgw').trans d1', (hbq.cell (p := ⟨g', off' + k * 5 + 2, none⟩) hgw').trans d2', (hbq.cell (p := ⟨g', off' + k * 5 + 3, none⟩) hgw').trans d3', (hbq.cell (p := ⟨g', off' + k * 5 + 4, none⟩) hgw').trans d4'⟩)
        (first | (go_at_call 55; refine HC.out.mono ?_; rintro e wq ⟨rfl, hbq⟩))
      have hbn : Below w.heap.size w wq := hbr.drew.trans (hbq.mono hbr.size)
      clear hbq hbr c0 c1 c2 c3 c4 d0' d1' d2' d3' d4'
      go_wp2_with fail
      go_roundw
      case rel => exact ⟨k + 1, by omega, by go_num, hbn⟩
      case measure => simp [intOf]; omega
    · have hkn : k = n' := by omega
      subst hkn
      go_wp2_with fail
      go_ret
      exact ⟨rfl, hbr⟩
theorem eqCoreS_all (ts : List Core) : EqR 23 (.row 5 (ts.flatMap Core.pd)) := eqCoreS_step fun t _ => eqCore_all t

set_option maxHeartbeats 1600000 in
theorem eqModule_step {pages : Int} {imports : List Imp} {cores : List Core} (ih_imports : EqR 22 (.row 3 (imports.flatMap Imp.pd))) (ih_cores : EqR 23 (.row 5 (cores.flatMap Core.pd))) : EqC 9 (Mod.pd ⟨pages, imports, cores⟩) := by
  intro B cs us w hB h h'
  obtain ⟨importsV, coresV, rfl, r_imports, r_cores⟩ := Mod.open_ h
  obtain ⟨importsV', coresV', rfl, s_imports, s_cores⟩ := Mod.open_ h'
  have R_imports := Lib.hid r_imports
  have S_imports := Lib.hid s_imports
  clear r_imports s_imports
  have R_cores := Lib.hid r_cores
  have S_cores := Lib.hid s_cores
  clear r_cores s_cores
  go_enter Tryz.func9, Tryz.ntmps9
  go_wp2_with fail
  obtain ⟨w0, hw0⟩ : ∃ w0, w0 = (w.alloc (.cells #[.int .i64 pages, importsV, coresV] 31)).alloc (.cells #[.int .i64 pages, importsV', coresV'] 31) := ⟨_, rfl⟩
  rw [← hw0]
  have bA : Blk w0 w.heap.size 31 #[.int .i64 pages, importsV, coresV] := by rw [hw0]; exact (Blk.new w _ _).alloc _
  have bB : Blk w0 (w.heap.size + 1) 31 #[.int .i64 pages, importsV', coresV'] := by rw [hw0]; have := Blk.new (w.alloc (.cells #[.int .i64 pages, importsV, coresV] 31)) 31 #[.int .i64 pages, importsV', coresV']; simpa using this
  have hB0 : Below w.heap.size w w0 := by rw [hw0]; exact ((Below.refl _ _).alloc (Nat.le_refl _) _).alloc (by simp) _
  clear hw0
  refine (ih_imports B importsV importsV' _ (by have := hB0.size; omega) (R_imports.out.below (hB0.mono hB)) (S_imports.out.below (hB0.mono hB))).mono ?_
  rintro e w1 ⟨rfl, hb1⟩
  have hB1 := hB0.trans (hb1.mono hB0.size)
  replace bA := bA.step hb1
  replace bB := bB.step hb1
  have a1_2 : w1.cell? ⟨w.heap.size, 2, none⟩ = some (coresV) := bA.cell 2
  have b1_2 : w1.cell? ⟨w.heap.size + 1, 2, none⟩ = some (coresV') := bB.cell 2
  go_wp2_with fail
  refine (ih_cores B coresV coresV' _ (by have := hB1.size; omega) (R_cores.out.below (hB1.mono hB)) (S_cores.out.below (hB1.mono hB))).mono ?_
  rintro e w2 ⟨rfl, hb2⟩
  have hB2 := hB1.trans (hb2.mono hB1.size)
  replace bA := bA.step hb2
  replace bB := bB.step hb2
  go_wp2_with fail
  go_ret
  exact ⟨rfl, hB2⟩
theorem eqModule_all (t : Mod) : EqC 9 (Mod.pd t) := by obtain ⟨pages, imports, cores⟩ := t; exact eqModule_step (eqImportS_all imports) (eqCoreS_all cores)











end Go.Proofs.YtflpfcnpjadccaaGreatDoor
