/-
  The laws' own helpers 'sz..' over the program's types (by program: tygen2.py, tyfam.py).
-/
import Derived.Test.YtflpfcnpjadccaaGreatDoorFam
import Derived.Test.YtflpfcnpjadccaaGreatDoorTy
namespace Go.Proofs.YtflpfcnpjadccaaGreatDoor
open Go.RowKit
set_option linter.unusedVariables false
set_option linter.unusedSimpArgs false
set_option linter.unnecessarySimpa false
set_option maxRecDepth 100000
















set_option maxHeartbeats 1600000 in
theorem szImport_step {name : ByteArray} {params : Int} {result : Bool} : SzC 34 (Imp.pd ⟨name, params, result⟩) := by
  intro B cs w left h0 h1 hB hwf h
  obtain rfl := Imp.open_ h
  rw [Imp.pd_mk] at hwf
  simp only [PD.wfL, PD.wf, and_true, true_and] at hwf
  obtain ⟨wf_name, wf_params⟩ := hwf
  unfold maxLen at wf_name
  clear wf_params
  rw [show PD.szL (Imp.pd ⟨name, params, result⟩) = name.size by simp only [Imp.pd_mk, PD.szL, PD.sz] <;> omega]
  by_cases p0 : ((name.size : Nat) : Int) ≤ left
  case neg =>
    have eT := Lib.hid (szLeft_no (n := name.size) (left := left) (by omega))
    go_enter Tryz.func34, Tryz.ntmps34
    go_wp2_with fail
    go_ret
    exact ⟨ret_int eT.out.symm, (Below.refl _ _).alloc (Nat.le_refl _) _⟩
  have q0 : 0 ≤ left - ((name.size : Nat) : Int) := by omega
  go_enter Tryz.func34, Tryz.ntmps34
  go_wp2_with fail
  have eT := Lib.hid (szLeft_yes (n := name.size) (left := left) (by omega))
  go_ret
  exact ⟨ret_int (by rw [eT.out] <;> omega), (Below.refl _ _).alloc (Nat.le_refl _) _⟩
theorem szImport_all (t : Imp) : SzC 34 (Imp.pd t) := by obtain ⟨name, params, result⟩ := t; exact szImport_step 

set_option maxHeartbeats 1600000 in
theorem szInsS_step {ts : List Ins} : SzR 68 (.row 2 (ts.flatMap Ins.pd)) := by
  intro B v w left h0 h1 hB hwf h
  obtain ⟨A, n, c, rfl, hnl, hm, _⟩ := rep_row Ins.pd_length (by decide) h
  unfold maxLen at hm
  rw [sz_row Ins.pd_length (by decide), szL_fixed (fun t => by first | rfl | (obtain ⟨op, a⟩ := t; rfl)), Nat.add_zero, ← hnl]
  clear h hnl hwf
  by_cases hl : (n : Int) ≤ left
  · rw [szLeft_yes hl]
    go_enter Tryz.func68, Tryz.ntmps68
    go_wp2_with fail
    go_ret
    exact ⟨rfl, Below.refl _ _⟩
  · rw [szLeft_no (by omega)]
    go_enter Tryz.func68, Tryz.ntmps68
    go_wp2_with fail
    go_ret
    exact ⟨rfl, Below.refl _ _⟩
theorem szInsS_all (ts : List Ins) : SzR 68 (.row 2 (ts.flatMap Ins.pd)) := szInsS_step

set_option maxHeartbeats 1600000 in
theorem szCore_step {name : ByteArray} {params : Int} {locals : Int} {result : Bool} {code : List Ins} (ih_code : SzR 68 (.row 2 (code.flatMap Ins.pd))) : SzC 35 (Core.pd ⟨name, params, locals, result, code⟩) := by
  intro B cs w left h0 h1 hB hwf h
  obtain ⟨codeV, rfl, r_code⟩ := Core.open_ h
  rw [Core.pd_mk] at hwf
  simp only [PD.wfL, PD.wf, and_true, true_and] at hwf
  obtain ⟨wf_name, wf_params, wf_locals, wf_code⟩ := hwf
  unfold maxLen at wf_name
  clear wf_params
  clear wf_locals
  have W_code := Lib.hid wf_code
  have R_code := Lib.hid r_code
  clear wf_code r_code
  rw [show PD.szL (Core.pd ⟨name, params, locals, result, code⟩) = name.size + (PD.row 2 (code.flatMap Ins.pd)).sz by simp only [Core.pd_mk, PD.szL, PD.sz] <;> omega]
  obtain ⟨z1, hz1⟩ : ∃ z : Nat, z = (PD.row 2 (code.flatMap Ins.pd)).sz := ⟨_, rfl⟩
  rw [← hz1]
  have Z1 := Lib.hid hz1
  clear hz1
  by_cases p0 : ((name.size : Nat) : Int) ≤ left
  case neg =>
    have eT := Lib.hid (szLeft_no (n := name.size + z1) (left := left) (by omega))
    go_enter Tryz.func35, Tryz.ntmps35
    go_wp2_with fail
    go_ret
    exact ⟨ret_int eT.out.symm, (Below.refl _ _).alloc (Nat.le_refl _) _⟩
  have q0 : 0 ≤ left - ((name.size : Nat) : Int) := by omega
  go_enter Tryz.func35, Tryz.ntmps35
  go_wp2_with fail
  obtain ⟨w0, hw0⟩ : ∃ w0, w0 = w.alloc (.cells #[.string name, .int .i64 params, .int .i64 locals, .bool result, codeV] 66) := ⟨_, rfl⟩
  rw [← hw0]
  have bA : Blk w0 w.heap.size 66 #[.string name, .int .i64 params, .int .i64 locals, .bool result, codeV] := by rw [hw0]; exact Blk.new w _ _
  have hB0 : Below w.heap.size w w0 := by rw [hw0]; exact (Below.refl _ _).alloc (Nat.le_refl _) _
  clear hw0
  refine (ih_code B codeV _ (left - (name.size : Int)) (by omega) (by omega) (Nat.le_trans hB hB0.size) W_code.out (R_code.out.below (hB0.mono hB))).mono ?_
  rintro e w1 ⟨rfl, hb1⟩
  have hB1 := hB0.trans (hb1.mono hB0.size)
  replace bA := bA.step hb1
  rw [← Z1.out]
  by_cases p1 : (z1 : Int) ≤ left - (name.size : Int)
  case neg =>
    rw [szLeft_no (by omega)]
    have eT := Lib.hid (szLeft_no (n := name.size + z1) (left := left) (by omega))
    go_wp2_with fail
    go_ret
    exact ⟨ret_int eT.out.symm, hB1⟩
  rw [szLeft_yes p1]
  have q1 : 0 ≤ left - (name.size : Int) - (z1 : Int) := by omega
  go_wp2_with fail
  have eT := Lib.hid (szLeft_yes (n := name.size + z1) (left := left) (by omega))
  go_ret
  exact ⟨ret_int (by rw [eT.out] <;> omega), hB1⟩
theorem szCore_all (t : Core) : SzC 35 (Core.pd t) := by obtain ⟨name, params, locals, result, code⟩ := t; exact szCore_step szInsS_step

set_option maxHeartbeats 1600000 in
theorem szImportS_step {ts : List Imp} (ih : ∀ t ∈ ts, SzC 34 (Imp.pd t)) : SzR 14 (.row 3 (ts.flatMap Imp.pd)) := by
  intro B v w left h0 h1 hB hwf h
  rw [PD.wf, wfL_flatMap] at hwf
  obtain ⟨A, n, c, rfl, hnl, hm, hat⟩ := rep_row Imp.pd_length (by decide) h
  unfold maxLen at hm
  rw [sz_row Imp.pd_length (by decide), ← hnl]
  have HN := Lib.hid hnl
  have HW := Lib.hid hwf
  have HI := Lib.hid ih
  clear ih
  clear h hnl hwf
  obtain ⟨S, hS⟩ : ∃ S : Nat, S = PD.szL (ts.flatMap Imp.pd) := ⟨_, rfl⟩
  rw [← hS]
  have HS := Lib.hid hS
  clear hS
  by_cases hl : (n : Int) ≤ left
  · go_enter Tryz.func14, Tryz.ntmps14
    go_wp2_with fail
    go_loopw [1, 5] (fun l i wr => ∃ (k Q : Nat), k ≤ n ∧ l = .int .i64 (left - n - Q) ∧ i = .int .i64 k ∧ (n : Int) + Q ≤ left ∧ Hid (Q = PD.szL ((ts.take k).flatMap Imp.pd)) ∧ Below w.heap.size w wr) (fun _ i _ => n - (intOf i).toNat)
    case atStart => exact ⟨0, 0, Nat.zero_le _, by simp, rfl, by omega, Lib.hid (by simp [PD.szL]), Below.refl _ _⟩
    case round =>
      obtain ⟨k, Q, hk, rfl, rfl, hQ, HQ, hbr⟩ := hrel
      by_cases hlt : k < n
      · obtain ⟨g, off, rfl, hg, hcell⟩ := hat (by omega)
        obtain ⟨t, hx, hmem⟩ := at_lt HN.out hlt
        have hnx := szL_take_succ (f := Imp.pd) hx
        have hle := szL_get_le (f := Imp.pd) hx
        rw [← HQ.out] at hnx hle
        rw [← HS.out] at hle
        obtain ⟨name, params, result⟩ := t
        have c0 : wr.cell? ⟨g, off + k * 3, none⟩ = some (.string name) := cell_lit hbr (by omega) (hcell k 0 _ _ hx (by rw [Imp.pd_mk]; rfl))
        have c1 : wr.cell? ⟨g, off + k * 3 + 1, none⟩ = some (.int .i64 params) := cell_lit hbr (by omega) (hcell k 1 _ _ hx (by rw [Imp.pd_mk]; rfl))
        have c2 : wr.cell? ⟨g, off + k * 3 + 2, none⟩ = some (.bool result) := cell_lit hbr (by omega) (hcell k 2 _ _ hx (by rw [Imp.pd_mk]; rfl))
        obtain ⟨z, hz⟩ : ∃ z : Nat, z = PD.szL (Imp.pd ⟨name, params, result⟩) := ⟨_, rfl⟩
        have hc := HI.out _ hmem B [.string name, .int .i64 params, .bool result] wr (left - n - Q) (by omega) (by omega) (Nat.le_trans hB hbr.size) (HW.out _ hmem) (Imp.close_)
        rw [← hz] at hc hnx hle
        clear hx hcell hz
        have HC := Lib.hid hc
        have HX := Lib.hid hnx
        clear hc hnx
        go_wp2_with fail
        refine HC.out.mono ?_
        rintro e wq ⟨rfl, hbq⟩
        by_cases hzl : (z : Int) ≤ left - n - Q
        · rw [szLeft_yes hzl]
          have hp : 0 ≤ left - n - Q - (z : Int) := by omega
          go_wp2_with fail
          go_roundw
          case rel => exact ⟨k + 1, Q + z, by omega, by go_num, by go_num, by omega, Lib.hid HX.out.symm, hbr.trans (hbq.mono hbr.size)⟩
          case measure => simp [intOf]; omega
        · rw [szLeft_no (by omega)]
          have e2 := Lib.hid (szLeft_no (n := n + S) (show left < ((n + S : Nat) : Int) by omega))
          go_wp2_with fail
          go_ret
          exact ⟨ret_int e2.out.symm, hbr.trans (hbq.mono hbr.size)⟩
      · have hkn : k = n := by omega
        subst hkn
        have hqs : Q = S := by rw [HQ.out, HS.out, List.take_of_length_le (by have := HN.out; omega)]
        have e2 := Lib.hid (szLeft_yes (n := k + S) (left := left) (by omega))
        clear hqs
        have HQS : Hid (Q = S) := by have : Q = S := by rw [HQ.out, HS.out, List.take_of_length_le (by have := HN.out; omega)]
                                     exact Lib.hid this
        go_wp2_with fail
        go_ret
        exact ⟨ret_int (by rw [e2.out, HQS.out]; omega), hbr⟩
  · have e2 := Lib.hid (szLeft_no (n := n + S) (show left < ((n + S : Nat) : Int) by omega))
    go_enter Tryz.func14, Tryz.ntmps14
    go_wp2_with fail
    go_ret
    exact ⟨ret_int e2.out.symm, Below.refl _ _⟩
theorem szImportS_all (ts : List Imp) : SzR 14 (.row 3 (ts.flatMap Imp.pd)) := szImportS_step fun t _ => szImport_all t

set_option maxHeartbeats 1600000 in
theorem szCoreS_step {ts : List Core} (ih : ∀ t ∈ ts, SzC 35 (Core.pd t)) : SzR 15 (.row 5 (ts.flatMap Core.pd)) := by
  intro B v w left h0 h1 hB hwf h
  rw [PD.wf, wfL_flatMap] at hwf
  obtain ⟨A, n, c, rfl, hnl, hm, hat⟩ := rep_row Core.pd_length (by decide) h
  unfold maxLen at hm
  rw [sz_row Core.pd_length (by decide), ← hnl]
  have HN := Lib.hid hnl
  have HW := Lib.hid hwf
  have HI := Lib.hid ih
  clear ih
  clear h hnl hwf
  obtain ⟨S, hS⟩ : ∃ S : Nat, S = PD.szL (ts.flatMap Core.pd) := ⟨_, rfl⟩
  rw [← hS]
  have HS := Lib.hid hS
  clear hS
  by_cases hl : (n : Int) ≤ left
  · go_enter Tryz.func15, Tryz.ntmps15
    go_wp2_with fail
    go_loopw [1, 5] (fun l i wr => ∃ (k Q : Nat), k ≤ n ∧ l = .int .i64 (left - n - Q) ∧ i = .int .i64 k ∧ (n : Int) + Q ≤ left ∧ Hid (Q = PD.szL ((ts.take k).flatMap Core.pd)) ∧ Below w.heap.size w wr) (fun _ i _ => n - (intOf i).toNat)
    case atStart => exact ⟨0, 0, Nat.zero_le _, by simp, rfl, by omega, Lib.hid (by simp [PD.szL]), Below.refl _ _⟩
    case round =>
      obtain ⟨k, Q, hk, rfl, rfl, hQ, HQ, hbr⟩ := hrel
      by_cases hlt : k < n
      · obtain ⟨g, off, rfl, hg, hcell⟩ := hat (by omega)
        obtain ⟨t, hx, hmem⟩ := at_lt HN.out hlt
        have hnx := szL_take_succ (f := Core.pd) hx
        have hle := szL_get_le (f := Core.pd) hx
        rw [← HQ.out] at hnx hle
        rw [← HS.out] at hle
        obtain ⟨name, params, locals, result, code⟩ := t
        have c0 : wr.cell? ⟨g, off + k * 5, none⟩ = some (.string name) := cell_lit hbr (by omega) (hcell k 0 _ _ hx (by rw [Core.pd_mk]; rfl))
        have c1 : wr.cell? ⟨g, off + k * 5 + 1, none⟩ = some (.int .i64 params) := cell_lit hbr (by omega) (hcell k 1 _ _ hx (by rw [Core.pd_mk]; rfl))
        have c2 : wr.cell? ⟨g, off + k * 5 + 2, none⟩ = some (.int .i64 locals) := cell_lit hbr (by omega) (hcell k 2 _ _ hx (by rw [Core.pd_mk]; rfl))
        have c3 : wr.cell? ⟨g, off + k * 5 + 3, none⟩ = some (.bool result) := cell_lit hbr (by omega) (hcell k 3 _ _ hx (by rw [Core.pd_mk]; rfl))
        obtain ⟨codeV, c4, hr4⟩ : ∃ u, wr.cell? ⟨g, off + k * 5 + 4, none⟩ = some u ∧ Rep wr B (.row 2 (code.flatMap Ins.pd)) u := cell_rep hbr (by omega) hB (hcell k 4 _ _ hx (by rw [Core.pd_mk]; rfl))
        have HR4 := Lib.hid hr4
        clear hr4
        obtain ⟨z, hz⟩ : ∃ z : Nat, z = PD.szL (Core.pd ⟨name, params, locals, result, code⟩) := ⟨_, rfl⟩
        have hc := HI.out _ hmem B [.string name, .int .i64 params, .int .i64 locals, .bool result, codeV] wr (left - n - Q) (by omega) (by omega) (Nat.le_trans hB hbr.size) (HW.out _ hmem) (Core.close_ HR4.out)
        rw [← hz] at hc hnx hle
        clear hx hcell hz
        have HC := Lib.hid hc
        have HX := Lib.hid hnx
        clear hc hnx
        go_wp2_with fail
        refine HC.out.mono ?_
        rintro e wq ⟨rfl, hbq⟩
        by_cases hzl : (z : Int) ≤ left - n - Q
        · rw [szLeft_yes hzl]
          have hp : 0 ≤ left - n - Q - (z : Int) := by omega
          go_wp2_with fail
          go_roundw
          case rel => exact ⟨k + 1, Q + z, by omega, by go_num, by go_num, by omega, Lib.hid HX.out.symm, hbr.trans (hbq.mono hbr.size)⟩
          case measure => simp [intOf]; omega
        · rw [szLeft_no (by omega)]
          have e2 := Lib.hid (szLeft_no (n := n + S) (show left < ((n + S : Nat) : Int) by omega))
          go_wp2_with fail
          go_ret
          exact ⟨ret_int e2.out.symm, hbr.trans (hbq.mono hbr.size)⟩
      · have hkn : k = n := by omega
        subst hkn
        have hqs : Q = S := by rw [HQ.out, HS.out, List.take_of_length_le (by have := HN.out; omega)]
        have e2 := Lib.hid (szLeft_yes (n := k + S) (left := left) (by omega))
        clear hqs
        have HQS : Hid (Q = S) := by have : Q = S := by rw [HQ.out, HS.out, List.take_of_length_le (by have := HN.out; omega)]
                                     exact Lib.hid this
        go_wp2_with fail
        go_ret
        exact ⟨ret_int (by rw [e2.out, HQS.out]; omega), hbr⟩
  · have e2 := Lib.hid (szLeft_no (n := n + S) (show left < ((n + S : Nat) : Int) by omega))
    go_enter Tryz.func15, Tryz.ntmps15
    go_wp2_with fail
    go_ret
    exact ⟨ret_int e2.out.symm, Below.refl _ _⟩
theorem szCoreS_all (ts : List Core) : SzR 15 (.row 5 (ts.flatMap Core.pd)) := szCoreS_step fun t _ => szCore_all t

set_option maxHeartbeats 1600000 in
theorem szModule_step {pages : Int} {imports : List Imp} {cores : List Core} (ih_imports : SzR 14 (.row 3 (imports.flatMap Imp.pd))) (ih_cores : SzR 15 (.row 5 (cores.flatMap Core.pd))) : SzC 5 (Mod.pd ⟨pages, imports, cores⟩) := by
  intro B cs w left h0 h1 hB hwf h
  obtain ⟨importsV, coresV, rfl, r_imports, r_cores⟩ := Mod.open_ h
  rw [Mod.pd_mk] at hwf
  simp only [PD.wfL, PD.wf, and_true, true_and] at hwf
  obtain ⟨wf_pages, wf_imports, wf_cores⟩ := hwf
  clear wf_pages
  have W_imports := Lib.hid wf_imports
  have R_imports := Lib.hid r_imports
  clear wf_imports r_imports
  have W_cores := Lib.hid wf_cores
  have R_cores := Lib.hid r_cores
  clear wf_cores r_cores
  rw [show PD.szL (Mod.pd ⟨pages, imports, cores⟩) = (PD.row 3 (imports.flatMap Imp.pd)).sz + (PD.row 5 (cores.flatMap Core.pd)).sz by simp only [Mod.pd_mk, PD.szL, PD.sz] <;> omega]
  obtain ⟨z0, hz0⟩ : ∃ z : Nat, z = (PD.row 3 (imports.flatMap Imp.pd)).sz := ⟨_, rfl⟩
  rw [← hz0]
  have Z0 := Lib.hid hz0
  clear hz0
  obtain ⟨z1, hz1⟩ : ∃ z : Nat, z = (PD.row 5 (cores.flatMap Core.pd)).sz := ⟨_, rfl⟩
  rw [← hz1]
  have Z1 := Lib.hid hz1
  clear hz1
  go_enter Tryz.func5, Tryz.ntmps5
  go_wp2_with fail
  obtain ⟨w0, hw0⟩ : ∃ w0, w0 = w.alloc (.cells #[.int .i64 pages, importsV, coresV] 25) := ⟨_, rfl⟩
  rw [← hw0]
  have bA : Blk w0 w.heap.size 25 #[.int .i64 pages, importsV, coresV] := by rw [hw0]; exact Blk.new w _ _
  have hB0 : Below w.heap.size w w0 := by rw [hw0]; exact (Below.refl _ _).alloc (Nat.le_refl _) _
  clear hw0
  refine (ih_imports B importsV _ (left) (by omega) (by omega) (Nat.le_trans hB hB0.size) W_imports.out (R_imports.out.below (hB0.mono hB))).mono ?_
  rintro e w1 ⟨rfl, hb1⟩
  have hB1 := hB0.trans (hb1.mono hB0.size)
  replace bA := bA.step hb1
  rw [← Z0.out]
  by_cases p0 : (z0 : Int) ≤ left
  case neg =>
    rw [szLeft_no (by omega)]
    have eT := Lib.hid (szLeft_no (n := z0 + z1) (left := left) (by omega))
    go_wp2_with fail
    go_ret
    exact ⟨ret_int eT.out.symm, hB1⟩
  rw [szLeft_yes p0]
  have q0 : 0 ≤ left - (z0 : Int) := by omega
  have a1_2 : w1.cell? ⟨w.heap.size, 2, none⟩ = some (coresV) := bA.cell 2
  go_wp2_with fail
  refine (ih_cores B coresV _ (left - (z0 : Int)) (by omega) (by omega) (Nat.le_trans hB hB1.size) W_cores.out (R_cores.out.below (hB1.mono hB))).mono ?_
  rintro e w2 ⟨rfl, hb2⟩
  have hB2 := hB1.trans (hb2.mono hB1.size)
  replace bA := bA.step hb2
  rw [← Z1.out]
  by_cases p1 : (z1 : Int) ≤ left - (z0 : Int)
  case neg =>
    rw [szLeft_no (by omega)]
    have eT := Lib.hid (szLeft_no (n := z0 + z1) (left := left) (by omega))
    go_wp2_with fail
    go_ret
    exact ⟨ret_int eT.out.symm, hB2⟩
  rw [szLeft_yes p1]
  have q1 : 0 ≤ left - (z0 : Int) - (z1 : Int) := by omega
  go_wp2_with fail
  have eT := Lib.hid (szLeft_yes (n := z0 + z1) (left := left) (by omega))
  go_ret
  exact ⟨ret_int (by rw [eT.out] <;> omega), hB2⟩
theorem szModule_all (t : Mod) : SzC 5 (Mod.pd t) := by obtain ⟨pages, imports, cores⟩ := t; exact szModule_step (szImportS_all imports) (szCoreS_all cores)











end Go.Proofs.YtflpfcnpjadccaaGreatDoor
