/-
  The laws' own helpers 'sz..' over the program's types (by program: tygen2.py, tyfam.py).
-/
import Derived.Test.YtnedcpoengcbaaaFam
import Derived.Test.YtnedcpoengcbaaaTy
namespace Go.Proofs.Ytnedcpoengcbaaa
open Go.RowKit
set_option linter.unusedVariables false
set_option linter.unusedSimpArgs false
set_option linter.unnecessarySimpa false
set_option maxRecDepth 100000


set_option maxHeartbeats 1600000 in
theorem szStringS_step {ts : List ByteArray} : SzR 88 (.row 1 (ts.flatMap strC)) := by
  intro B v w left h0 h1 hB hwf h
  rw [PD.wf, wfL_flatMap] at hwf
  obtain ⟨A, n, c, rfl, hnl, hm, hat⟩ := rep_row strC_length (by decide) h
  unfold maxLen at hm
  rw [sz_row strC_length (by decide), ← hnl]
  have HN := Lib.hid hnl
  have HW := Lib.hid hwf
  clear h hnl hwf
  obtain ⟨S, hS⟩ : ∃ S : Nat, S = PD.szL (ts.flatMap strC) := ⟨_, rfl⟩
  rw [← hS]
  have HS := Lib.hid hS
  clear hS
  by_cases hl : (n : Int) ≤ left
  · go_enter Try.func88, Try.ntmps88
    go_wp2_with fail
    go_loopw [1, 5] (fun l i wr => ∃ (k Q : Nat), k ≤ n ∧ l = .int .i64 (left - n - Q) ∧ i = .int .i64 k ∧ (n : Int) + Q ≤ left ∧ Hid (Q = PD.szL ((ts.take k).flatMap strC)) ∧ Below w.heap.size w wr) (fun _ i _ => n - (intOf i).toNat)
    case atStart => exact ⟨0, 0, Nat.zero_le _, by simp, rfl, by omega, Lib.hid (by simp [PD.szL]), Below.refl _ _⟩
    case round =>
      obtain ⟨k, Q, hk, rfl, rfl, hQ, HQ, hbr⟩ := hrel
      by_cases hlt : k < n
      · obtain ⟨g, off, rfl, hg, hcell⟩ := hat (by omega)
        obtain ⟨t, hx, hmem⟩ := at_lt HN.out hlt
        have hnx := szL_take_succ (f := strC) hx
        have hle := szL_get_le (f := strC) hx
        rw [← HQ.out] at hnx hle
        rw [← HS.out] at hle
        have c0 : wr.cell? ⟨g, off + k, none⟩ = some (.string t) := cell_lit hbr (by omega) (by have := hcell k 0 _ _ hx rfl; simpa using this)
        rw [szL_strC] at hnx hle
        have hsz : t.size ≤ maxLen := by have := HW.out _ hmem; simpa [strC, PD.wfL, PD.wf] using this
        unfold maxLen at hsz
        have HX := Lib.hid hnx
        clear hx hcell hnx
        by_cases hzl : (t.size : Int) ≤ left - n - Q
        · have hp : 0 ≤ left - n - Q - (t.size : Int) := by omega
          go_wp2_with fail
          go_roundw
          case rel => exact ⟨k + 1, Q + t.size, by omega, by go_num, by go_num, by omega, Lib.hid HX.out.symm, hbr⟩
          case measure => simp [intOf]; omega
        · have e2 := Lib.hid (szLeft_no (n := n + S) (show left < ((n + S : Nat) : Int) by omega))
          go_wp2_with fail
          go_ret
          exact ⟨ret_int e2.out.symm, hbr⟩
      · have hkn : k = n := by omega
        subst hkn
        have hqs : Q = S := by rw [HQ.out, HS.out, List.take_of_length_le (by have := HN.out; omega)]
        have e2 := Lib.hid (szLeft_yes (n := k + S) (left := left) (by omega))
        clear hqs
        have HQS : Hid (Q = S) := by have : Q = S := by rw [HQ.out, HS.out, List.take_of_length_le (by have := HN.out; omega)]
                                     exact Lib.hid this
        go_wp2_with fail
        go_ret
        exact ⟨ret_int (by rw [e2.out, HQS.out]; omega), hbr⟩
  · have e2 := Lib.hid (szLeft_no (n := n + S) (show left < ((n + S : Nat) : Int) by omega))
    go_enter Try.func88, Try.ntmps88
    go_wp2_with fail
    go_ret
    exact ⟨ret_int e2.out.symm, Below.refl _ _⟩
theorem szStringS_all (ts : List ByteArray) : SzR 88 (.row 1 (ts.flatMap strC)) := szStringS_step




set_option maxHeartbeats 1600000 in
theorem szTypeS_step {ts : List Ty} (ih : ∀ t ∈ ts, SzC 60 (Ty.pd t)) : SzR 35 (.row 4 (ts.flatMap Ty.pd)) := by
  intro B v w left h0 h1 hB hwf h
  rw [PD.wf, wfL_flatMap] at hwf
  obtain ⟨A, n, c, rfl, hnl, hm, hat⟩ := rep_row Ty.pd_length (by decide) h
  unfold maxLen at hm
  rw [sz_row Ty.pd_length (by decide), ← hnl]
  have HN := Lib.hid hnl
  have HW := Lib.hid hwf
  have HI := Lib.hid ih
  clear ih
  clear h hnl hwf
  obtain ⟨S, hS⟩ : ∃ S : Nat, S = PD.szL (ts.flatMap Ty.pd) := ⟨_, rfl⟩
  rw [← hS]
  have HS := Lib.hid hS
  clear hS
  by_cases hl : (n : Int) ≤ left
  · go_enter Try.func35, Try.ntmps35
    go_wp2_with fail
    go_loopw [1, 5] (fun l i wr => ∃ (k Q : Nat), k ≤ n ∧ l = .int .i64 (left - n - Q) ∧ i = .int .i64 k ∧ (n : Int) + Q ≤ left ∧ Hid (Q = PD.szL ((ts.take k).flatMap Ty.pd)) ∧ Below w.heap.size w wr) (fun _ i _ => n - (intOf i).toNat)
    case atStart => exact ⟨0, 0, Nat.zero_le _, by simp, rfl, by omega, Lib.hid (by simp [PD.szL]), Below.refl _ _⟩
    case round =>
      obtain ⟨k, Q, hk, rfl, rfl, hQ, HQ, hbr⟩ := hrel
      by_cases hlt : k < n
      · obtain ⟨g, off, rfl, hg, hcell⟩ := hat (by omega)
        obtain ⟨t, hx, hmem⟩ := at_lt HN.out hlt
        have hnx := szL_take_succ (f := Ty.pd) hx
        have hle := szL_get_le (f := Ty.pd) hx
        rw [← HQ.out] at hnx hle
        rw [← HS.out] at hle
        obtain ⟨kind, name, labels, kids⟩ := t
        have c0 : wr.cell? ⟨g, off + k * 4, none⟩ = some (.int .i64 kind) := cell_lit hbr (by omega) (hcell k 0 _ _ hx (by rw [Ty.pd_mk]; rfl))
        have c1 : wr.cell? ⟨g, off + k * 4 + 1, none⟩ = some (.string name) := cell_lit hbr (by omega) (hcell k 1 _ _ hx (by rw [Ty.pd_mk]; rfl))
        obtain ⟨labelsV, c2, hr2⟩ : ∃ u, wr.cell? ⟨g, off + k * 4 + 2, none⟩ = some u ∧ Rep wr B (.row 1 (labels.flatMap strC)) u := cell_rep hbr (by omega) hB (hcell k 2 _ _ hx (by rw [Ty.pd_mk]; rfl))
        have HR2 := Lib.hid hr2
        clear hr2
        obtain ⟨kidsV, c3, hr3⟩ : ∃ u, wr.cell? ⟨g, off + k * 4 + 3, none⟩ = some u ∧ Rep wr B (.row 4 (kids.flatMap Ty.pd)) u := cell_rep hbr (by omega) hB (hcell k 3 _ _ hx (by rw [Ty.pd_mk]; rfl))
        have HR3 := Lib.hid hr3
        clear hr3
        obtain ⟨z, hz⟩ : ∃ z : Nat, z = PD.szL (Ty.pd ⟨kind, name, labels, kids⟩) := ⟨_, rfl⟩
        have hc := HI.out _ hmem B [.int .i64 kind, .string name, labelsV, kidsV] wr (left - n - Q) (by omega) (by omega) (Nat.le_trans hB hbr.size) (HW.out _ hmem) (Ty.close_ HR2.out HR3.out)
        rw [← hz] at hc hnx hle
        clear hx hcell hz
        have HC := Lib.hid hc
        have HX := Lib.hid hnx
        clear hc hnx
        go_wp2_with fail
        refine HC.out.mono ?_
        rintro e wq ⟨rfl, hbq⟩
        by_cases hzl : (z : Int) ≤ left - n - Q
        · rw [szLeft_yes hzl]
          have hp : 0 ≤ left - n - Q - (z : Int) := by omega
          go_wp2_with fail
          go_roundw
          case rel => exact ⟨k + 1, Q + z, by omega, by go_num, by go_num, by omega, Lib.hid HX.out.symm, hbr.trans (hbq.mono hbr.size)⟩
          case measure => simp [intOf]; omega
        · rw [szLeft_no (by omega)]
          have e2 := Lib.hid (szLeft_no (n := n + S) (show left < ((n + S : Nat) : Int) by omega))
          go_wp2_with fail
          go_ret
          exact ⟨ret_int e2.out.symm, hbr.trans (hbq.mono hbr.size)⟩
      · have hkn : k = n := by omega
        subst hkn
        have hqs : Q = S := by rw [HQ.out, HS.out, List.take_of_length_le (by have := HN.out; omega)]
        have e2 := Lib.hid (szLeft_yes (n := k + S) (left := left) (by omega))
        clear hqs
        have HQS : Hid (Q = S) := by have : Q = S := by rw [HQ.out, HS.out, List.take_of_length_le (by have := HN.out; omega)]
                                     exact Lib.hid this
        go_wp2_with fail
        go_ret
        exact ⟨ret_int (by rw [e2.out, HQS.out]; omega), hbr⟩
  · have e2 := Lib.hid (szLeft_no (n := n + S) (show left < ((n + S : Nat) : Int) by omega))
    go_enter Try.func35, Try.ntmps35
    go_wp2_with fail
    go_ret
    exact ⟨ret_int e2.out.symm, Below.refl _ _⟩
set_option maxHeartbeats 1600000 in
theorem szType_step {kind : Int} {name : ByteArray} {labels : List ByteArray} {kids : List Ty} (ih_labels : SzR 88 (.row 1 (labels.flatMap strC))) (ih_kids : SzR 35 (.row 4 (kids.flatMap Ty.pd))) : SzC 60 (Ty.pd ⟨kind, name, labels, kids⟩) := by
  intro B cs w left h0 h1 hB hwf h
  obtain ⟨labelsV, kidsV, rfl, r_labels, r_kids⟩ := Ty.open_ h
  rw [Ty.pd_mk] at hwf
  simp only [PD.wfL, PD.wf, and_true, true_and] at hwf
  obtain ⟨wf_kind, wf_name, wf_labels, wf_kids⟩ := hwf
  clear wf_kind
  unfold maxLen at wf_name
  have W_labels := Lib.hid wf_labels
  have R_labels := Lib.hid r_labels
  clear wf_labels r_labels
  have W_kids := Lib.hid wf_kids
  have R_kids := Lib.hid r_kids
  clear wf_kids r_kids
  rw [show PD.szL (Ty.pd ⟨kind, name, labels, kids⟩) = name.size + (PD.row 1 (labels.flatMap strC)).sz + (PD.row 4 (kids.flatMap Ty.pd)).sz by simp only [Ty.pd_mk, PD.szL, PD.sz] <;> omega]
  obtain ⟨z1, hz1⟩ : ∃ z : Nat, z = (PD.row 1 (labels.flatMap strC)).sz := ⟨_, rfl⟩
  rw [← hz1]
  have Z1 := Lib.hid hz1
  clear hz1
  obtain ⟨z2, hz2⟩ : ∃ z : Nat, z = (PD.row 4 (kids.flatMap Ty.pd)).sz := ⟨_, rfl⟩
  rw [← hz2]
  have Z2 := Lib.hid hz2
  clear hz2
  by_cases p0 : ((name.size : Nat) : Int) ≤ left
  case neg =>
    have eT := Lib.hid (szLeft_no (n := name.size + z1 + z2) (left := left) (by omega))
    go_enter Try.func60, Try.ntmps60
    go_wp2_with fail
    go_ret
    exact ⟨ret_int eT.out.symm, (Below.refl _ _).alloc (Nat.le_refl _) _⟩
  have q0 : 0 ≤ left - ((name.size : Nat) : Int) := by omega
  go_enter Try.func60, Try.ntmps60
  go_wp2_with fail
  obtain ⟨w0, hw0⟩ : ∃ w0, w0 = w.alloc (.cells #[.int .i64 kind, .string name, labelsV, kidsV] 100) := ⟨_, rfl⟩
  rw [← hw0]
  have bA : Blk w0 w.heap.size 100 #[.int .i64 kind, .string name, labelsV, kidsV] := by rw [hw0]; exact Blk.new w _ _
  have hB0 : Below w.heap.size w w0 := by rw [hw0]; exact (Below.refl _ _).alloc (Nat.le_refl _) _
  clear hw0
  refine (ih_labels B labelsV _ (left - (name.size : Int)) (by omega) (by omega) (Nat.le_trans hB hB0.size) W_labels.out (R_labels.out.below (hB0.mono hB))).mono ?_
  rintro e w1 ⟨rfl, hb1⟩
  have hB1 := hB0.trans (hb1.mono hB0.size)
  replace bA := bA.step hb1
  rw [← Z1.out]
  by_cases p1 : (z1 : Int) ≤ left - (name.size : Int)
  case neg =>
    rw [szLeft_no (by omega)]
    have eT := Lib.hid (szLeft_no (n := name.size + z1 + z2) (left := left) (by omega))
    go_wp2_with fail
    go_ret
    exact ⟨ret_int eT.out.symm, hB1⟩
  rw [szLeft_yes p1]
  have q1 : 0 ≤ left - (name.size : Int) - (z1 : Int) := by omega
  have a1_3 : w1.cell? ⟨w.heap.size, 3, none⟩ = some (kidsV) := bA.cell 3
  go_wp2_with fail
  refine (ih_kids B kidsV _ (left - (name.size : Int) - (z1 : Int)) (by omega) (by omega) (Nat.le_trans hB hB1.size) W_kids.out (R_kids.out.below (hB1.mono hB))).mono ?_
  rintro e w2 ⟨rfl, hb2⟩
  have hB2 := hB1.trans (hb2.mono hB1.size)
  replace bA := bA.step hb2
  rw [← Z2.out]
  by_cases p2 : (z2 : Int) ≤ left - (name.size : Int) - (z1 : Int)
  case neg =>
    rw [szLeft_no (by omega)]
    have eT := Lib.hid (szLeft_no (n := name.size + z1 + z2) (left := left) (by omega))
    go_wp2_with fail
    go_ret
    exact ⟨ret_int eT.out.symm, hB2⟩
  rw [szLeft_yes p2]
  have q2 : 0 ≤ left - (name.size : Int) - (z1 : Int) - (z2 : Int) := by omega
  go_wp2_with fail
  have eT := Lib.hid (szLeft_yes (n := name.size + z1 + z2) (left := left) (by omega))
  go_ret
  exact ⟨ret_int (by rw [eT.out] <;> omega), hB2⟩
mutual
theorem szType_all : ∀ t : Ty, SzC 60 (Ty.pd t)
  | .mk kind name labels kids => szType_step szStringS_step (szTypeS_step (szType_mem kids))
theorem szType_mem : ∀ ts : List Ty, ∀ t ∈ ts, SzC 60 (Ty.pd t)
  | [], x, hx => absurd hx (by simp)
  | t :: r, x, hx => (List.mem_cons.1 hx).elim (fun e => e ▸ szType_all t) (fun h => szType_mem r x h)
end
theorem szTypeS_all (ts : List Ty) : SzR 35 (.row 4 (ts.flatMap Ty.pd)) := szTypeS_step fun t _ => szType_all t










set_option maxHeartbeats 1600000 in
theorem szImport_step {name : ByteArray} {params : Int} {result : Bool} : SzC 56 (Imp.pd ⟨name, params, result⟩) := by
  intro B cs w left h0 h1 hB hwf h
  obtain rfl := Imp.open_ h
  rw [Imp.pd_mk] at hwf
  simp only [PD.wfL, PD.wf, and_true, true_and] at hwf
  obtain ⟨wf_name, wf_params⟩ := hwf
  unfold maxLen at wf_name
  clear wf_params
  rw [show PD.szL (Imp.pd ⟨name, params, result⟩) = name.size by simp only [Imp.pd_mk, PD.szL, PD.sz] <;> omega]
  by_cases p0 : ((name.size : Nat) : Int) ≤ left
  case neg =>
    have eT := Lib.hid (szLeft_no (n := name.size) (left := left) (by omega))
    go_enter Try.func56, Try.ntmps56
    go_wp2_with fail
    go_ret
    exact ⟨ret_int eT.out.symm, (Below.refl _ _).alloc (Nat.le_refl _) _⟩
  have q0 : 0 ≤ left - ((name.size : Nat) : Int) := by omega
  go_enter Try.func56, Try.ntmps56
  go_wp2_with fail
  have eT := Lib.hid (szLeft_yes (n := name.size) (left := left) (by omega))
  go_ret
  exact ⟨ret_int (by rw [eT.out] <;> omega), (Below.refl _ _).alloc (Nat.le_refl _) _⟩
theorem szImport_all (t : Imp) : SzC 56 (Imp.pd t) := by obtain ⟨name, params, result⟩ := t; exact szImport_step 

set_option maxHeartbeats 1600000 in
theorem szInsS_step {ts : List Ins} : SzR 46 (.row 2 (ts.flatMap Ins.pd)) := by
  intro B v w left h0 h1 hB hwf h
  obtain ⟨A, n, c, rfl, hnl, hm, _⟩ := rep_row Ins.pd_length (by decide) h
  unfold maxLen at hm
  rw [sz_row Ins.pd_length (by decide), szL_fixed (fun t => by first | rfl | (obtain ⟨op, a⟩ := t; rfl)), Nat.add_zero, ← hnl]
  clear h hnl hwf
  by_cases hl : (n : Int) ≤ left
  · rw [szLeft_yes hl]
    go_enter Try.func46, Try.ntmps46
    go_wp2_with fail
    go_ret
    exact ⟨rfl, Below.refl _ _⟩
  · rw [szLeft_no (by omega)]
    go_enter Try.func46, Try.ntmps46
    go_wp2_with fail
    go_ret
    exact ⟨rfl, Below.refl _ _⟩
theorem szInsS_all (ts : List Ins) : SzR 46 (.row 2 (ts.flatMap Ins.pd)) := szInsS_step

set_option maxHeartbeats 1600000 in
theorem szCore_step {name : ByteArray} {params : Int} {locals : Int} {result : Bool} {code : List Ins} (ih_code : SzR 46 (.row 2 (code.flatMap Ins.pd))) : SzC 16 (Core.pd ⟨name, params, locals, result, code⟩) := by
  intro B cs w left h0 h1 hB hwf h
  obtain ⟨codeV, rfl, r_code⟩ := Core.open_ h
  rw [Core.pd_mk] at hwf
  simp only [PD.wfL, PD.wf, and_true, true_and] at hwf
  obtain ⟨wf_name, wf_params, wf_locals, wf_code⟩ := hwf
  unfold maxLen at wf_name
  clear wf_params
  clear wf_locals
  have W_code := Lib.hid wf_code
  have R_code := Lib.hid r_code
  clear wf_code r_code
  rw [show PD.szL (Core.pd ⟨name, params, locals, result, code⟩) = name.size + (PD.row 2 (code.flatMap Ins.pd)).sz by simp only [Core.pd_mk, PD.szL, PD.sz] <;> omega]
  obtain ⟨z1, hz1⟩ : ∃ z : Nat, z = (PD.row 2 (code.flatMap Ins.pd)).sz := ⟨_, rfl⟩
  rw [← hz1]
  have Z1 := Lib.hid hz1
  clear hz1
  by_cases p0 : ((name.size : Nat) : Int) ≤ left
  case neg =>
    have eT := Lib.hid (szLeft_no (n := name.size + z1) (left := left) (by omega))
    go_enter Try.func16, Try.ntmps16
    go_wp2_with fail
    go_ret
    exact ⟨ret_int eT.out.symm, (Below.refl _ _).alloc (Nat.le_refl _) _⟩
  have q0 : 0 ≤ left - ((name.size : Nat) : Int) := by omega
  go_enter Try.func16, Try.ntmps16
  go_wp2_with fail
  obtain ⟨w0, hw0⟩ : ∃ w0, w0 = w.alloc (.cells #[.string name, .int .i64 params, .int .i64 locals, .bool result, codeV] 48) := ⟨_, rfl⟩
  rw [← hw0]
  have bA : Blk w0 w.heap.size 48 #[.string name, .int .i64 params, .int .i64 locals, .bool result, codeV] := by rw [hw0]; exact Blk.new w _ _
  have hB0 : Below w.heap.size w w0 := by rw [hw0]; exact (Below.refl _ _).alloc (Nat.le_refl _) _
  clear hw0
  refine (ih_code B codeV _ (left - (name.size : Int)) (by omega) (by omega) (Nat.le_trans hB hB0.size) W_code.out (R_code.out.below (hB0.mono hB))).mono ?_
  rintro e w1 ⟨rfl, hb1⟩
  have hB1 := hB0.trans (hb1.mono hB0.size)
  replace bA := bA.step hb1
  rw [← Z1.out]
  by_cases p1 : (z1 : Int) ≤ left - (name.size : Int)
  case neg =>
    rw [szLeft_no (by omega)]
    have eT := Lib.hid (szLeft_no (n := name.size + z1) (left := left) (by omega))
    go_wp2_with fail
    go_ret
    exact ⟨ret_int eT.out.symm, hB1⟩
  rw [szLeft_yes p1]
  have q1 : 0 ≤ left - (name.size : Int) - (z1 : Int) := by omega
  go_wp2_with fail
  have eT := Lib.hid (szLeft_yes (n := name.size + z1) (left := left) (by omega))
  go_ret
  exact ⟨ret_int (by rw [eT.out] <;> omega), hB1⟩
theorem szCore_all (t : Core) : SzC 16 (Core.pd t) := by obtain ⟨name, params, locals, result, code⟩ := t; exact szCore_step szInsS_step

set_option maxHeartbeats 1600000 in
theorem szImportS_step {ts : List Imp} (ih : ∀ t ∈ ts, SzC 56 (Imp.pd t)) : SzR 25 (.row 3 (ts.flatMap Imp.pd)) := by
  intro B v w left h0 h1 hB hwf h
  rw [PD.wf, wfL_flatMap] at hwf
  obtain ⟨A, n, c, rfl, hnl, hm, hat⟩ := rep_row Imp.pd_length (by decide) h
  unfold maxLen at hm
  rw [sz_row Imp.pd_length (by decide), ← hnl]
  have HN := Lib.hid hnl
  have HW := Lib.hid hwf
  have HI := Lib.hid ih
  clear ih
  clear h hnl hwf
  obtain ⟨S, hS⟩ : ∃ S : Nat, S = PD.szL (ts.flatMap Imp.pd) := ⟨_, rfl⟩
  rw [← hS]
  have HS := Lib.hid hS
  clear hS
  by_cases hl : (n : Int) ≤ left
  · go_enter Try.func25, Try.ntmps25
    go_wp2_with fail
    go_loopw [1, 5] (fun l i wr => ∃ (k Q : Nat), k ≤ n ∧ l = .int .i64 (left - n - Q) ∧ i = .int .i64 k ∧ (n : Int) + Q ≤ left ∧ Hid (Q = PD.szL ((ts.take k).flatMap Imp.pd)) ∧ Below w.heap.size w wr) (fun _ i _ => n - (intOf i).toNat)
    case atStart => exact ⟨0, 0, Nat.zero_le _, by simp, rfl, by omega, Lib.hid (by simp [PD.szL]), Below.refl _ _⟩
    case round =>
      obtain ⟨k, Q, hk, rfl, rfl, hQ, HQ, hbr⟩ := hrel
      by_cases hlt : k < n
      · obtain ⟨g, off, rfl, hg, hcell⟩ := hat (by omega)
        obtain ⟨t, hx, hmem⟩ := at_lt HN.out hlt
        have hnx := szL_take_succ (f := Imp.pd) hx
        have hle := szL_get_le (f := Imp.pd) hx
        rw [← HQ.out] at hnx hle
        rw [← HS.out] at hle
        obtain ⟨name, params, result⟩ := t
        have c0 : wr.cell? ⟨g, off + k * 3, none⟩ = some (.string name) := cell_lit hbr (by omega) (hcell k 0 _ _ hx (by rw [Imp.pd_mk]; rfl))
        have c1 : wr.cell? ⟨g, off + k * 3 + 1, none⟩ = some (.int .i64 params) := cell_lit hbr (by omega) (hcell k 1 _ _ hx (by rw [Imp.pd_mk]; rfl))
        have c2 : wr.cell? ⟨g, off + k * 3 + 2, none⟩ = some (.bool result) := cell_lit hbr (by omega) (hcell k 2 _ _ hx (by rw [Imp.pd_mk]; rfl))
        obtain ⟨z, hz⟩ : ∃ z : Nat, z = PD.szL (Imp.pd ⟨name, params, result⟩) := ⟨_, rfl⟩
        have hc := HI.out _ hmem B [.string name, .int .i64 params, .bool result] wr (left - n - Q) (by omega) (by omega) (Nat.le_trans hB hbr.size) (HW.out _ hmem) (Imp.close_)
        rw [← hz] at hc hnx hle
        clear hx hcell hz
        have HC := Lib.hid hc
        have HX := Lib.hid hnx
        clear hc hnx
        go_wp2_with fail
        refine HC.out.mono ?_
        rintro e wq ⟨rfl, hbq⟩
        by_cases hzl : (z : Int) ≤ left - n - Q
        · rw [szLeft_yes hzl]
          have hp : 0 ≤ left - n - Q - (z : Int) := by omega
          go_wp2_with fail
          go_roundw
          case rel => exact ⟨k + 1, Q + z, by omega, by go_num, by go_num, by omega, Lib.hid HX.out.symm, hbr.trans (hbq.mono hbr.size)⟩
          case measure => simp [intOf]; omega
        · rw [szLeft_no (by omega)]
          have e2 := Lib.hid (szLeft_no (n := n + S) (show left < ((n + S : Nat) : Int) by omega))
          go_wp2_with fail
          go_ret
          exact ⟨ret_int e2.out.symm, hbr.trans (hbq.mono hbr.size)⟩
      · have hkn : k = n := by omega
        subst hkn
        have hqs : Q = S := by rw [HQ.out, HS.out, List.take_of_length_le (by have := HN.out; omega)]
        have e2 := Lib.hid (szLeft_yes (n := k + S) (left := left) (by omega))
        clear hqs
        have HQS : Hid (Q = S) := by have : Q = S := by rw [HQ.out, HS.out, List.take_of_length_le (by have := HN.out; omega)]
                                     exact Lib.hid this
        go_wp2_with fail
        go_ret
        exact ⟨ret_int (by rw [e2.out, HQS.out]; omega), hbr⟩
  · have e2 := Lib.hid (szLeft_no (n := n + S) (show left < ((n + S : Nat) : Int) by omega))
    go_enter Try.func25, Try.ntmps25
    go_wp2_with fail
    go_ret
    exact ⟨ret_int e2.out.symm, Below.refl _ _⟩
theorem szImportS_all (ts : List Imp) : SzR 25 (.row 3 (ts.flatMap Imp.pd)) := szImportS_step fun t _ => szImport_all t

set_option maxHeartbeats 1600000 in
theorem szCoreS_step {ts : List Core} (ih : ∀ t ∈ ts, SzC 16 (Core.pd t)) : SzR 26 (.row 5 (ts.flatMap Core.pd)) := by
  intro B v w left h0 h1 hB hwf h
  rw [PD.wf, wfL_flatMap] at hwf
  obtain ⟨A, n, c, rfl, hnl, hm, hat⟩ := rep_row Core.pd_length (by decide) h
  unfold maxLen at hm
  rw [sz_row Core.pd_length (by decide), ← hnl]
  have HN := Lib.hid hnl
  have HW := Lib.hid hwf
  have HI := Lib.hid ih
  clear ih
  clear h hnl hwf
  obtain ⟨S, hS⟩ : ∃ S : Nat, S = PD.szL (ts.flatMap Core.pd) := ⟨_, rfl⟩
  rw [← hS]
  have HS := Lib.hid hS
  clear hS
  by_cases hl : (n : Int) ≤ left
  · go_enter Try.func26, Try.ntmps26
    go_wp2_with fail
    go_loopw [1, 5] (fun l i wr => ∃ (k Q : Nat), k ≤ n ∧ l = .int .i64 (left - n - Q) ∧ i = .int .i64 k ∧ (n : Int) + Q ≤ left ∧ Hid (Q = PD.szL ((ts.take k).flatMap Core.pd)) ∧ Below w.heap.size w wr) (fun _ i _ => n - (intOf i).toNat)
    case atStart => exact ⟨0, 0, Nat.zero_le _, by simp, rfl, by omega, Lib.hid (by simp [PD.szL]), Below.refl _ _⟩
    case round =>
      obtain ⟨k, Q, hk, rfl, rfl, hQ, HQ, hbr⟩ := hrel
      by_cases hlt : k < n
      · obtain ⟨g, off, rfl, hg, hcell⟩ := hat (by omega)
        obtain ⟨t, hx, hmem⟩ := at_lt HN.out hlt
        have hnx := szL_take_succ (f := Core.pd) hx
        have hle := szL_get_le (f := Core.pd) hx
        rw [← HQ.out] at hnx hle
        rw [← HS.out] at hle
        obtain ⟨name, params, locals, result, code⟩ := t
        have c0 : wr.cell? ⟨g, off + k * 5, none⟩ = some (.string name) := cell_lit hbr (by omega) (hcell k 0 _ _ hx (by rw [Core.pd_mk]; rfl))
        have c1 : wr.cell? ⟨g, off + k * 5 + 1, none⟩ = some (.int .i64 params) := cell_lit hbr (by omega) (hcell k 1 _ _ hx (by rw [Core.pd_mk]; rfl))
        have c2 : wr.cell? ⟨g, off + k * 5 + 2, none⟩ = some (.int .i64 locals) := cell_lit hbr (by omega) (hcell k 2 _ _ hx (by rw [Core.pd_mk]; rfl))
        have c3 : wr.cell? ⟨g, off + k * 5 + 3, none⟩ = some (.bool result) := cell_lit hbr (by omega) (hcell k 3 _ _ hx (by rw [Core.pd_mk]; rfl))
        obtain ⟨codeV, c4, hr4⟩ : ∃ u, wr.cell? ⟨g, off + k * 5 + 4, none⟩ = some u ∧ Rep wr B (.row 2 (code.flatMap Ins.pd)) u := cell_rep hbr (by omega) hB (hcell k 4 _ _ hx (by rw [Core.pd_mk]; rfl))
        have HR4 := Lib.hid hr4
        clear hr4
        obtain ⟨z, hz⟩ : ∃ z : Nat, z = PD.szL (Core.pd ⟨name, params, locals, result, code⟩) := ⟨_, rfl⟩
        have hc := HI.out _ hmem B [.string name, .int .i64 params, .int .i64 locals, .bool result, codeV] wr (left - n - Q) (by omega) (by omega) (Nat.le_trans hB hbr.size) (HW.out _ hmem) (Core.close_ HR4.out)
        rw [← hz] at hc hnx hle
        clear hx hcell hz
        have HC := Lib.hid hc
        have HX := Lib.hid hnx
        clear hc hnx
        go_wp2_with fail
        refine HC.out.mono ?_
        rintro e wq ⟨rfl, hbq⟩
        by_cases hzl : (z : Int) ≤ left - n - Q
        · rw [szLeft_yes hzl]
          have hp : 0 ≤ left - n - Q - (z : Int) := by omega
          go_wp2_with fail
          go_roundw
          case rel => exact ⟨k + 1, Q + z, by omega, by go_num, by go_num, by omega, Lib.hid HX.out.symm, hbr.trans (hbq.mono hbr.size)⟩
          case measure => simp [intOf]; omega
        · rw [szLeft_no (by omega)]
          have e2 := Lib.hid (szLeft_no (n := n + S) (show left < ((n + S : Nat) : Int) by omega))
          go_wp2_with fail
          go_ret
          exact ⟨ret_int e2.out.symm, hbr.trans (hbq.mono hbr.size)⟩
      · have hkn : k = n := by omega
        subst hkn
        have hqs : Q = S := by rw [HQ.out, HS.out, List.take_of_length_le (by have := HN.out; omega)]
        have e2 := Lib.hid (szLeft_yes (n := k + S) (left := left) (by omega))
        clear hqs
        have HQS : Hid (Q = S) := by have : Q = S := by rw [HQ.out, HS.out, List.take_of_length_le (by have := HN.out; omega)]
                                     exact Lib.hid this
        go_wp2_with fail
        go_ret
        exact ⟨ret_int (by rw [e2.out, HQS.out]; omega), hbr⟩
  · have e2 := Lib.hid (szLeft_no (n := n + S) (show left < ((n + S : Nat) : Int) by omega))
    go_enter Try.func26, Try.ntmps26
    go_wp2_with fail
    go_ret
    exact ⟨ret_int e2.out.symm, Below.refl _ _⟩
theorem szCoreS_all (ts : List Core) : SzR 26 (.row 5 (ts.flatMap Core.pd)) := szCoreS_step fun t _ => szCore_all t

set_option maxHeartbeats 1600000 in
theorem szModule_step {pages : Int} {imports : List Imp} {cores : List Core} (ih_imports : SzR 25 (.row 3 (imports.flatMap Imp.pd))) (ih_cores : SzR 26 (.row 5 (cores.flatMap Core.pd))) : SzC 6 (Mod.pd ⟨pages, imports, cores⟩) := by
  intro B cs w left h0 h1 hB hwf h
  obtain ⟨importsV, coresV, rfl, r_imports, r_cores⟩ := Mod.open_ h
  rw [Mod.pd_mk] at hwf
  simp only [PD.wfL, PD.wf, and_true, true_and] at hwf
  obtain ⟨wf_pages, wf_imports, wf_cores⟩ := hwf
  clear wf_pages
  have W_imports := Lib.hid wf_imports
  have R_imports := Lib.hid r_imports
  clear wf_imports r_imports
  have W_cores := Lib.hid wf_cores
  have R_cores := Lib.hid r_cores
  clear wf_cores r_cores
  rw [show PD.szL (Mod.pd ⟨pages, imports, cores⟩) = (PD.row 3 (imports.flatMap Imp.pd)).sz + (PD.row 5 (cores.flatMap Core.pd)).sz by simp only [Mod.pd_mk, PD.szL, PD.sz] <;> omega]
  obtain ⟨z0, hz0⟩ : ∃ z : Nat, z = (PD.row 3 (imports.flatMap Imp.pd)).sz := ⟨_, rfl⟩
  rw [← hz0]
  have Z0 := Lib.hid hz0
  clear hz0
  obtain ⟨z1, hz1⟩ : ∃ z : Nat, z = (PD.row 5 (cores.flatMap Core.pd)).sz := ⟨_, rfl⟩
  rw [← hz1]
  have Z1 := Lib.hid hz1
  clear hz1
  go_enter Try.func6, Try.ntmps6
  go_wp2_with fail
  obtain ⟨w0, hw0⟩ : ∃ w0, w0 = w.alloc (.cells #[.int .i64 pages, importsV, coresV] 25) := ⟨_, rfl⟩
  rw [← hw0]
  have bA : Blk w0 w.heap.size 25 #[.int .i64 pages, importsV, coresV] := by rw [hw0]; exact Blk.new w _ _
  have hB0 : Below w.heap.size w w0 := by rw [hw0]; exact (Below.refl _ _).alloc (Nat.le_refl _) _
  clear hw0
  refine (ih_imports B importsV _ (left) (by omega) (by omega) (Nat.le_trans hB hB0.size) W_imports.out (R_imports.out.below (hB0.mono hB))).mono ?_
  rintro e w1 ⟨rfl, hb1⟩
  have hB1 := hB0.trans (hb1.mono hB0.size)
  replace bA := bA.step hb1
  rw [← Z0.out]
  by_cases p0 : (z0 : Int) ≤ left
  case neg =>
    rw [szLeft_no (by omega)]
    have eT := Lib.hid (szLeft_no (n := z0 + z1) (left := left) (by omega))
    go_wp2_with fail
    go_ret
    exact ⟨ret_int eT.out.symm, hB1⟩
  rw [szLeft_yes p0]
  have q0 : 0 ≤ left - (z0 : Int) := by omega
  have a1_2 : w1.cell? ⟨w.heap.size, 2, none⟩ = some (coresV) := bA.cell 2
  go_wp2_with fail
  refine (ih_cores B coresV _ (left - (z0 : Int)) (by omega) (by omega) (Nat.le_trans hB hB1.size) W_cores.out (R_cores.out.below (hB1.mono hB))).mono ?_
  rintro e w2 ⟨rfl, hb2⟩
  have hB2 := hB1.trans (hb2.mono hB1.size)
  replace bA := bA.step hb2
  rw [← Z1.out]
  by_cases p1 : (z1 : Int) ≤ left - (z0 : Int)
  case neg =>
    rw [szLeft_no (by omega)]
    have eT := Lib.hid (szLeft_no (n := z0 + z1) (left := left) (by omega))
    go_wp2_with fail
    go_ret
    exact ⟨ret_int eT.out.symm, hB2⟩
  rw [szLeft_yes p1]
  have q1 : 0 ≤ left - (z0 : Int) - (z1 : Int) := by omega
  go_wp2_with fail
  have eT := Lib.hid (szLeft_yes (n := z0 + z1) (left := left) (by omega))
  go_ret
  exact ⟨ret_int (by rw [eT.out] <;> omega), hB2⟩
theorem szModule_all (t : Mod) : SzC 6 (Mod.pd t) := by obtain ⟨pages, imports, cores⟩ := t; exact szModule_step (szImportS_all imports) (szCoreS_all cores)


set_option maxHeartbeats 1600000 in
theorem szMoveS_step {ts : List Move} (ih : ∀ t ∈ ts, SzC 61 (Move.pd t)) : SzR 36 (.row 8 (ts.flatMap Move.pd)) := by
  intro B v w left h0 h1 hB hwf h
  rw [PD.wf, wfL_flatMap] at hwf
  obtain ⟨A, n, c, rfl, hnl, hm, hat⟩ := rep_row Move.pd_length (by decide) h
  unfold maxLen at hm
  rw [sz_row Move.pd_length (by decide), ← hnl]
  have HN := Lib.hid hnl
  have HW := Lib.hid hwf
  have HI := Lib.hid ih
  clear ih
  clear h hnl hwf
  obtain ⟨S, hS⟩ : ∃ S : Nat, S = PD.szL (ts.flatMap Move.pd) := ⟨_, rfl⟩
  rw [← hS]
  have HS := Lib.hid hS
  clear hS
  by_cases hl : (n : Int) ≤ left
  · go_enter Try.func36, Try.ntmps36
    go_wp2_with fail
    go_loopw [1, 5] (fun l i wr => ∃ (k Q : Nat), k ≤ n ∧ l = .int .i64 (left - n - Q) ∧ i = .int .i64 k ∧ (n : Int) + Q ≤ left ∧ Hid (Q = PD.szL ((ts.take k).flatMap Move.pd)) ∧ Below w.heap.size w wr) (fun _ i _ => n - (intOf i).toNat)
    case atStart => exact ⟨0, 0, Nat.zero_le _, by simp, rfl, by omega, Lib.hid (by simp [PD.szL]), Below.refl _ _⟩
    case round =>
      obtain ⟨k, Q, hk, rfl, rfl, hQ, HQ, hbr⟩ := hrel
      by_cases hlt : k < n
      · obtain ⟨g, off, rfl, hg, hcell⟩ := hat (by omega)
        obtain ⟨t, hx, hmem⟩ := at_lt HN.out hlt
        have hnx := szL_take_succ (f := Move.pd) hx
        have hle := szL_get_le (f := Move.pd) hx
        rw [← HQ.out] at hnx hle
        rw [← HS.out] at hle
        obtain ⟨kind, at_, size, align, typ, most, name, kids⟩ := t
        have c0 : wr.cell? ⟨g, off + k * 8, none⟩ = some (.int .i64 kind) := cell_lit hbr (by omega) (hcell k 0 _ _ hx (by rw [Move.pd_mk]; rfl))
        have c1 : wr.cell? ⟨g, off + k * 8 + 1, none⟩ = some (.int .i64 at_) := cell_lit hbr (by omega) (hcell k 1 _ _ hx (by rw [Move.pd_mk]; rfl))
        have c2 : wr.cell? ⟨g, off + k * 8 + 2, none⟩ = some (.int .i64 size) := cell_lit hbr (by omega) (hcell k 2 _ _ hx (by rw [Move.pd_mk]; rfl))
        have c3 : wr.cell? ⟨g, off + k * 8 + 3, none⟩ = some (.int .i64 align) := cell_lit hbr (by omega) (hcell k 3 _ _ hx (by rw [Move.pd_mk]; rfl))
        have c4 : wr.cell? ⟨g, off + k * 8 + 4, none⟩ = some (.int .i64 typ) := cell_lit hbr (by omega) (hcell k 4 _ _ hx (by rw [Move.pd_mk]; rfl))
        have c5 : wr.cell? ⟨g, off + k * 8 + 5, none⟩ = some (.int .i64 most) := cell_lit hbr (by omega) (hcell k 5 _ _ hx (by rw [Move.pd_mk]; rfl))
        have c6 : wr.cell? ⟨g, off + k * 8 + 6, none⟩ = some (.string name) := cell_lit hbr (by omega) (hcell k 6 _ _ hx (by rw [Move.pd_mk]; rfl))
        obtain ⟨kidsV, c7, hr7⟩ : ∃ u, wr.cell? ⟨g, off + k * 8 + 7, none⟩ = some u ∧ Rep wr B (.row 1 (kids.flatMap rowCMoveS)) u := cell_rep hbr (by omega) hB (hcell k 7 _ _ hx (by rw [Move.pd_mk]; rfl))
        have HR7 := Lib.hid hr7
        clear hr7
        obtain ⟨z, hz⟩ : ∃ z : Nat, z = PD.szL (Move.pd ⟨kind, at_, size, align, typ, most, name, kids⟩) := ⟨_, rfl⟩
        have hc := HI.out _ hmem B [.int .i64 kind, .int .i64 at_, .int .i64 size, .int .i64 align, .int .i64 typ, .int .i64 most, .string name, kidsV] wr (left - n - Q) (by omega) (by omega) (Nat.le_trans hB hbr.size) (HW.out _ hmem) (Move.close_ HR7.out)
        rw [← hz] at hc hnx hle
        clear hx hcell hz
        have HC := Lib.hid hc
        have HX := Lib.hid hnx
        clear hc hnx
        go_wp2_with fail
        refine HC.out.mono ?_
        rintro e wq ⟨rfl, hbq⟩
        by_cases hzl : (z : Int) ≤ left - n - Q
        · rw [szLeft_yes hzl]
          have hp : 0 ≤ left - n - Q - (z : Int) := by omega
          go_wp2_with fail
          go_roundw
          case rel => exact ⟨k + 1, Q + z, by omega, by go_num, by go_num, by omega, Lib.hid HX.out.symm, hbr.trans (hbq.mono hbr.size)⟩
          case measure => simp [intOf]; omega
        · rw [szLeft_no (by omega)]
          have e2 := Lib.hid (szLeft_no (n := n + S) (show left < ((n + S : Nat) : Int) by omega))
          go_wp2_with fail
          go_ret
          exact ⟨ret_int e2.out.symm, hbr.trans (hbq.mono hbr.size)⟩
      · have hkn : k = n := by omega
        subst hkn
        have hqs : Q = S := by rw [HQ.out, HS.out, List.take_of_length_le (by have := HN.out; omega)]
        have e2 := Lib.hid (szLeft_yes (n := k + S) (left := left) (by omega))
        clear hqs
        have HQS : Hid (Q = S) := by have : Q = S := by rw [HQ.out, HS.out, List.take_of_length_le (by have := HN.out; omega)]
                                     exact Lib.hid this
        go_wp2_with fail
        go_ret
        exact ⟨ret_int (by rw [e2.out, HQS.out]; omega), hbr⟩
  · have e2 := Lib.hid (szLeft_no (n := n + S) (show left < ((n + S : Nat) : Int) by omega))
    go_enter Try.func36, Try.ntmps36
    go_wp2_with fail
    go_ret
    exact ⟨ret_int e2.out.symm, Below.refl _ _⟩
set_option maxHeartbeats 1600000 in
theorem szMoveSS_step {ts : List (List Move)} (ih : ∀ t ∈ ts, SzR 36 (.row 8 (t.flatMap Move.pd))) : SzR 89 (.row 1 (ts.flatMap rowCMoveS)) := by
  intro B v w left h0 h1 hB hwf h
  rw [PD.wf, wfL_flatMap] at hwf
  obtain ⟨A, n, c, rfl, hnl, hm, hat⟩ := rep_row rowCMoveS_length (by decide) h
  unfold maxLen at hm
  rw [sz_row rowCMoveS_length (by decide), ← hnl]
  have HN := Lib.hid hnl
  have HW := Lib.hid hwf
  have HI := Lib.hid ih
  clear ih
  clear h hnl hwf
  obtain ⟨S, hS⟩ : ∃ S : Nat, S = PD.szL (ts.flatMap rowCMoveS) := ⟨_, rfl⟩
  rw [← hS]
  have HS := Lib.hid hS
  clear hS
  by_cases hl : (n : Int) ≤ left
  · go_enter Try.func89, Try.ntmps89
    go_wp2_with fail
    go_loopw [1, 5] (fun l i wr => ∃ (k Q : Nat), k ≤ n ∧ l = .int .i64 (left - n - Q) ∧ i = .int .i64 k ∧ (n : Int) + Q ≤ left ∧ Hid (Q = PD.szL ((ts.take k).flatMap rowCMoveS)) ∧ Below w.heap.size w wr) (fun _ i _ => n - (intOf i).toNat)
    case atStart => exact ⟨0, 0, Nat.zero_le _, by simp, rfl, by omega, Lib.hid (by simp [PD.szL]), Below.refl _ _⟩
    case round =>
      obtain ⟨k, Q, hk, rfl, rfl, hQ, HQ, hbr⟩ := hrel
      by_cases hlt : k < n
      · obtain ⟨g, off, rfl, hg, hcell⟩ := hat (by omega)
        obtain ⟨t, hx, hmem⟩ := at_lt HN.out hlt
        have hnx := szL_take_succ (f := rowCMoveS) hx
        have hle := szL_get_le (f := rowCMoveS) hx
        rw [← HQ.out] at hnx hle
        rw [← HS.out] at hle
        obtain ⟨tV, c0, hr0⟩ : ∃ u, wr.cell? ⟨g, off + k, none⟩ = some u ∧ Rep wr B (.row 8 (t.flatMap Move.pd)) u := cell_rep hbr (by omega) hB (by have := hcell k 0 _ _ hx rfl; simpa using this)
        have HR0 := Lib.hid hr0
        clear hr0
        obtain ⟨z, hz⟩ : ∃ z : Nat, z = PD.szL (rowCMoveS t) := ⟨_, rfl⟩
        have hc := HI.out _ hmem B tV wr (left - n - Q) (by omega) (by omega) (Nat.le_trans hB hbr.size) (by have := HW.out _ hmem; simpa [rowCMoveS, PD.wfL] using this) HR0.out
        rw [show (PD.row 8 (t.flatMap Move.pd)).sz = PD.szL (rowCMoveS t) by simp [rowCMoveS, PD.szL]] at hc; rw [← hz] at hc hnx hle
        clear hx hcell hz
        have HC := Lib.hid hc
        have HX := Lib.hid hnx
        clear hc hnx
        go_wp2_with fail
        refine HC.out.mono ?_
        rintro e wq ⟨rfl, hbq⟩
        by_cases hzl : (z : Int) ≤ left - n - Q
        · rw [szLeft_yes hzl]
          have hp : 0 ≤ left - n - Q - (z : Int) := by omega
          go_wp2_with fail
          go_roundw
          case rel => exact ⟨k + 1, Q + z, by omega, by go_num, by go_num, by omega, Lib.hid HX.out.symm, hbr.trans (hbq.mono hbr.size)⟩
          case measure => simp [intOf]; omega
        · rw [szLeft_no (by omega)]
          have e2 := Lib.hid (szLeft_no (n := n + S) (show left < ((n + S : Nat) : Int) by omega))
          go_wp2_with fail
          go_ret
          exact ⟨ret_int e2.out.symm, hbr.trans (hbq.mono hbr.size)⟩
      · have hkn : k = n := by omega
        subst hkn
        have hqs : Q = S := by rw [HQ.out, HS.out, List.take_of_length_le (by have := HN.out; omega)]
        have e2 := Lib.hid (szLeft_yes (n := k + S) (left := left) (by omega))
        clear hqs
        have HQS : Hid (Q = S) := by have : Q = S := by rw [HQ.out, HS.out, List.take_of_length_le (by have := HN.out; omega)]
                                     exact Lib.hid this
        go_wp2_with fail
        go_ret
        exact ⟨ret_int (by rw [e2.out, HQS.out]; omega), hbr⟩
  · have e2 := Lib.hid (szLeft_no (n := n + S) (show left < ((n + S : Nat) : Int) by omega))
    go_enter Try.func89, Try.ntmps89
    go_wp2_with fail
    go_ret
    exact ⟨ret_int e2.out.symm, Below.refl _ _⟩
set_option maxHeartbeats 1600000 in
theorem szMove_step {kind : Int} {at_ : Int} {size : Int} {align : Int} {typ : Int} {most : Int} {name : ByteArray} {kids : List (List Move)} (ih_kids : SzR 89 (.row 1 (kids.flatMap rowCMoveS))) : SzC 61 (Move.pd ⟨kind, at_, size, align, typ, most, name, kids⟩) := by
  intro B cs w left h0 h1 hB hwf h
  obtain ⟨kidsV, rfl, r_kids⟩ := Move.open_ h
  rw [Move.pd_mk] at hwf
  simp only [PD.wfL, PD.wf, and_true, true_and] at hwf
  obtain ⟨wf_kind, wf_at_, wf_size, wf_align, wf_typ, wf_most, wf_name, wf_kids⟩ := hwf
  clear wf_kind
  clear wf_at_
  clear wf_size
  clear wf_align
  clear wf_typ
  clear wf_most
  unfold maxLen at wf_name
  have W_kids := Lib.hid wf_kids
  have R_kids := Lib.hid r_kids
  clear wf_kids r_kids
  rw [show PD.szL (Move.pd ⟨kind, at_, size, align, typ, most, name, kids⟩) = name.size + (PD.row 1 (kids.flatMap rowCMoveS)).sz by simp only [Move.pd_mk, PD.szL, PD.sz] <;> omega]
  obtain ⟨z1, hz1⟩ : ∃ z : Nat, z = (PD.row 1 (kids.flatMap rowCMoveS)).sz := ⟨_, rfl⟩
  rw [← hz1]
  have Z1 := Lib.hid hz1
  clear hz1
  by_cases p0 : ((name.size : Nat) : Int) ≤ left
  case neg =>
    have eT := Lib.hid (szLeft_no (n := name.size + z1) (left := left) (by omega))
    go_enter Try.func61, Try.ntmps61
    go_wp2_with fail
    go_ret
    exact ⟨ret_int eT.out.symm, (Below.refl _ _).alloc (Nat.le_refl _) _⟩
  have q0 : 0 ≤ left - ((name.size : Nat) : Int) := by omega
  go_enter Try.func61, Try.ntmps61
  go_wp2_with fail
  obtain ⟨w0, hw0⟩ : ∃ w0, w0 = w.alloc (.cells #[.int .i64 kind, .int .i64 at_, .int .i64 size, .int .i64 align, .int .i64 typ, .int .i64 most, .string name, kidsV] 104) := ⟨_, rfl⟩
  rw [← hw0]
  have bA : Blk w0 w.heap.size 104 #[.int .i64 kind, .int .i64 at_, .int .i64 size, .int .i64 align, .int .i64 typ, .int .i64 most, .string name, kidsV] := by rw [hw0]; exact Blk.new w _ _
  have hB0 : Below w.heap.size w w0 := by rw [hw0]; exact (Below.refl _ _).alloc (Nat.le_refl _) _
  clear hw0
  refine (ih_kids B kidsV _ (left - (name.size : Int)) (by omega) (by omega) (Nat.le_trans hB hB0.size) W_kids.out (R_kids.out.below (hB0.mono hB))).mono ?_
  rintro e w1 ⟨rfl, hb1⟩
  have hB1 := hB0.trans (hb1.mono hB0.size)
  replace bA := bA.step hb1
  rw [← Z1.out]
  by_cases p1 : (z1 : Int) ≤ left - (name.size : Int)
  case neg =>
    rw [szLeft_no (by omega)]
    have eT := Lib.hid (szLeft_no (n := name.size + z1) (left := left) (by omega))
    go_wp2_with fail
    go_ret
    exact ⟨ret_int eT.out.symm, hB1⟩
  rw [szLeft_yes p1]
  have q1 : 0 ≤ left - (name.size : Int) - (z1 : Int) := by omega
  go_wp2_with fail
  have eT := Lib.hid (szLeft_yes (n := name.size + z1) (left := left) (by omega))
  go_ret
  exact ⟨ret_int (by rw [eT.out] <;> omega), hB1⟩
mutual
theorem szMove_all : ∀ t : Move, SzC 61 (Move.pd t)
  | .mk kind at_ size align typ most name kids => szMove_step (szMoveSS_step (szMove_memS kids))
theorem szMove_mem : ∀ ts : List Move, ∀ t ∈ ts, SzC 61 (Move.pd t)
  | [], x, hx => absurd hx (by simp)
  | t :: r, x, hx => (List.mem_cons.1 hx).elim (fun e => e ▸ szMove_all t) (fun h => szMove_mem r x h)
theorem szMove_memS : ∀ ts : List (List Move), ∀ t ∈ ts, SzR 36 (.row 8 (t.flatMap Move.pd))
  | [], x, hx => absurd hx (by simp)
  | t :: r, x, hx => (List.mem_cons.1 hx).elim (fun e => e ▸ szMoveS_step (szMove_mem t)) (fun h => szMove_memS r x h)
end
theorem szMoveS_all (ts : List Move) : SzR 36 (.row 8 (ts.flatMap Move.pd)) := szMoveS_step fun t _ => szMove_all t
theorem szMoveSS_all (ts : List (List Move)) : SzR 89 (.row 1 (ts.flatMap rowCMoveS)) := szMoveSS_step fun t _ => szMoveS_all t

set_option maxHeartbeats 1600000 in
theorem szPlan_step {types : List Ty} {from_ : Int} {to_ : Int} {flat : List Move} {mem : List Move} (ih_types : SzR 35 (.row 4 (types.flatMap Ty.pd))) (ih_flat : SzR 36 (.row 8 (flat.flatMap Move.pd))) (ih_mem : SzR 36 (.row 8 (mem.flatMap Move.pd))) : SzC 11 (Plan.pd ⟨types, from_, to_, flat, mem⟩) := by
  intro B cs w left h0 h1 hB hwf h
  obtain ⟨typesV, flatV, memV, rfl, r_types, r_flat, r_mem⟩ := Plan.open_ h
  rw [Plan.pd_mk] at hwf
  simp only [PD.wfL, PD.wf, and_true, true_and] at hwf
  obtain ⟨wf_types, wf_from_, wf_to_, wf_flat, wf_mem⟩ := hwf
  have W_types := Lib.hid wf_types
  have R_types := Lib.hid r_types
  clear wf_types r_types
  clear wf_from_
  clear wf_to_
  have W_flat := Lib.hid wf_flat
  have R_flat := Lib.hid r_flat
  clear wf_flat r_flat
  have W_mem := Lib.hid wf_mem
  have R_mem := Lib.hid r_mem
  clear wf_mem r_mem
  rw [show PD.szL (Plan.pd ⟨types, from_, to_, flat, mem⟩) = (PD.row 4 (types.flatMap Ty.pd)).sz + (PD.row 8 (flat.flatMap Move.pd)).sz + (PD.row 8 (mem.flatMap Move.pd)).sz by simp only [Plan.pd_mk, PD.szL, PD.sz] <;> omega]
  obtain ⟨z0, hz0⟩ : ∃ z : Nat, z = (PD.row 4 (types.flatMap Ty.pd)).sz := ⟨_, rfl⟩
  rw [← hz0]
  have Z0 := Lib.hid hz0
  clear hz0
  obtain ⟨z1, hz1⟩ : ∃ z : Nat, z = (PD.row 8 (flat.flatMap Move.pd)).sz := ⟨_, rfl⟩
  rw [← hz1]
  have Z1 := Lib.hid hz1
  clear hz1
  obtain ⟨z2, hz2⟩ : ∃ z : Nat, z = (PD.row 8 (mem.flatMap Move.pd)).sz := ⟨_, rfl⟩
  rw [← hz2]
  have Z2 := Lib.hid hz2
  clear hz2
  go_enter Try.func11, Try.ntmps11
  go_wp2_with fail
  obtain ⟨w0, hw0⟩ : ∃ w0, w0 = w.alloc (.cells #[typesV, .int .i64 from_, .int .i64 to_, flatV, memV] 37) := ⟨_, rfl⟩
  rw [← hw0]
  have bA : Blk w0 w.heap.size 37 #[typesV, .int .i64 from_, .int .i64 to_, flatV, memV] := by rw [hw0]; exact Blk.new w _ _
  have hB0 : Below w.heap.size w w0 := by rw [hw0]; exact (Below.refl _ _).alloc (Nat.le_refl _) _
  clear hw0
  refine (ih_types B typesV _ (left) (by omega) (by omega) (Nat.le_trans hB hB0.size) W_types.out (R_types.out.below (hB0.mono hB))).mono ?_
  rintro e w1 ⟨rfl, hb1⟩
  have hB1 := hB0.trans (hb1.mono hB0.size)
  replace bA := bA.step hb1
  rw [← Z0.out]
  by_cases p0 : (z0 : Int) ≤ left
  case neg =>
    rw [szLeft_no (by omega)]
    have eT := Lib.hid (szLeft_no (n := z0 + z1 + z2) (left := left) (by omega))
    go_wp2_with fail
    go_ret
    exact ⟨ret_int eT.out.symm, hB1⟩
  rw [szLeft_yes p0]
  have q0 : 0 ≤ left - (z0 : Int) := by omega
  have a1_3 : w1.cell? ⟨w.heap.size, 3, none⟩ = some (flatV) := bA.cell 3
  go_wp2_with fail
  refine (ih_flat B flatV _ (left - (z0 : Int)) (by omega) (by omega) (Nat.le_trans hB hB1.size) W_flat.out (R_flat.out.below (hB1.mono hB))).mono ?_
  rintro e w2 ⟨rfl, hb2⟩
  have hB2 := hB1.trans (hb2.mono hB1.size)
  replace bA := bA.step hb2
  rw [← Z1.out]
  by_cases p1 : (z1 : Int) ≤ left - (z0 : Int)
  case neg =>
    rw [szLeft_no (by omega)]
    have eT := Lib.hid (szLeft_no (n := z0 + z1 + z2) (left := left) (by omega))
    go_wp2_with fail
    go_ret
    exact ⟨ret_int eT.out.symm, hB2⟩
  rw [szLeft_yes p1]
  have q1 : 0 ≤ left - (z0 : Int) - (z1 : Int) := by omega
  have a2_4 : w2.cell? ⟨w.heap.size, 4, none⟩ = some (memV) := bA.cell 4
  go_wp2_with fail
  refine (ih_mem B memV _ (left - (z0 : Int) - (z1 : Int)) (by omega) (by omega) (Nat.le_trans hB hB2.size) W_mem.out (R_mem.out.below (hB2.mono hB))).mono ?_
  rintro e w3 ⟨rfl, hb3⟩
  have hB3 := hB2.trans (hb3.mono hB2.size)
  replace bA := bA.step hb3
  rw [← Z2.out]
  by_cases p2 : (z2 : Int) ≤ left - (z0 : Int) - (z1 : Int)
  case neg =>
    rw [szLeft_no (by omega)]
    have eT := Lib.hid (szLeft_no (n := z0 + z1 + z2) (left := left) (by omega))
    go_wp2_with fail
    go_ret
    exact ⟨ret_int eT.out.symm, hB3⟩
  rw [szLeft_yes p2]
  have q2 : 0 ≤ left - (z0 : Int) - (z1 : Int) - (z2 : Int) := by omega
  go_wp2_with fail
  have eT := Lib.hid (szLeft_yes (n := z0 + z1 + z2) (left := left) (by omega))
  go_ret
  exact ⟨ret_int (by rw [eT.out] <;> omega), hB3⟩
theorem szPlan_all (t : Plan) : SzC 11 (Plan.pd t) := by obtain ⟨types, from_, to_, flat, mem⟩ := t; exact szPlan_step (szTypeS_all types) (szMoveS_all flat) (szMoveS_all mem)








end Go.Proofs.Ytnedcpoengcbaaa
