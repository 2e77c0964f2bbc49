/-
  The laws' own helpers 'sz..' over the program's types (by program: tygen2.py, tyfam.py).
-/
import Derived.Test.YtokiagkoehjekaaFam
import Derived.Test.YtokiagkoehjekaaTy
namespace Go.Proofs.Ytokiagkoehjekaa
open Go.RowKit
set_option linter.unusedVariables false
set_option linter.unusedSimpArgs false
set_option linter.unnecessarySimpa false
set_option maxRecDepth 100000

















set_option maxHeartbeats 1600000 in
theorem szInsS_step {ts : List Ins} : SzR 14 (.row 2 (ts.flatMap Ins.pd)) := by
  intro B v w left h0 h1 hB hwf h
  obtain ⟨A, n, c, rfl, hnl, hm, _⟩ := rep_row Ins.pd_length (by decide) h
  unfold maxLen at hm
  rw [sz_row Ins.pd_length (by decide), szL_fixed (fun t => by first | rfl | (obtain ⟨op, a⟩ := t; rfl)), Nat.add_zero, ← hnl]
  clear h hnl hwf
  by_cases hl : (n : Int) ≤ left
  · rw [szLeft_yes hl]
    go_enter Try.func14, Try.ntmps14
    go_wp2_with fail
    go_ret
    exact ⟨rfl, Below.refl _ _⟩
  · rw [szLeft_no (by omega)]
    go_enter Try.func14, Try.ntmps14
    go_wp2_with fail
    go_ret
    exact ⟨rfl, Below.refl _ _⟩
theorem szInsS_all (ts : List Ins) : SzR 14 (.row 2 (ts.flatMap Ins.pd)) := szInsS_step








set_option maxHeartbeats 1600000 in
theorem szSection_step {id : Int} {name : ByteArray} {bytes : ByteArray} : SzC 26 (Section.pd ⟨id, name, bytes⟩) := by
  intro B cs w left h0 h1 hB hwf h
  obtain rfl := Section.open_ h
  rw [Section.pd_mk] at hwf
  simp only [PD.wfL, PD.wf, and_true, true_and] at hwf
  obtain ⟨wf_id, wf_name, wf_bytes⟩ := hwf
  clear wf_id
  unfold maxLen at wf_name
  unfold maxLen at wf_bytes
  rw [show PD.szL (Section.pd ⟨id, name, bytes⟩) = name.size + bytes.size by simp only [Section.pd_mk, PD.szL, PD.sz] <;> omega]
  by_cases p0 : ((name.size : Nat) : Int) ≤ left
  case neg =>
    have eT := Lib.hid (szLeft_no (n := name.size + bytes.size) (left := left) (by omega))
    go_enter Try.func26, Try.ntmps26
    go_wp2_with fail
    go_ret
    exact ⟨ret_int eT.out.symm, (Below.refl _ _).alloc (Nat.le_refl _) _⟩
  have q0 : 0 ≤ left - ((name.size : Nat) : Int) := by omega
  by_cases p1 : ((bytes.size : Nat) : Int) ≤ left - (name.size : Int)
  case neg =>
    have eT := Lib.hid (szLeft_no (n := name.size + bytes.size) (left := left) (by omega))
    go_enter Try.func26, Try.ntmps26
    go_wp2_with fail
    go_ret
    exact ⟨ret_int eT.out.symm, (Below.refl _ _).alloc (Nat.le_refl _) _⟩
  have q1 : 0 ≤ left - (name.size : Int) - ((bytes.size : Nat) : Int) := by omega
  go_enter Try.func26, Try.ntmps26
  go_wp2_with fail
  have eT := Lib.hid (szLeft_yes (n := name.size + bytes.size) (left := left) (by omega))
  go_ret
  exact ⟨ret_int (by rw [eT.out] <;> omega), (Below.refl _ _).alloc (Nat.le_refl _) _⟩
theorem szSection_all (t : Section) : SzC 26 (Section.pd t) := by obtain ⟨id, name, bytes⟩ := t; exact szSection_step 


end Go.Proofs.Ytokiagkoehjekaa
