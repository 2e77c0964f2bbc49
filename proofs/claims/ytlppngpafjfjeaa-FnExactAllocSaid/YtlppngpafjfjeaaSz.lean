/-
  The laws' own helpers 'sz..' over the program's types (by program: tygen2.py, tyfam.py).
-/
import Derived.Test.YtlppngpafjfjeaaFam
import Derived.Test.YtlppngpafjfjeaaTy
namespace Go.Proofs.Ytlppngpafjfjeaa
open Go.RowKit
set_option linter.unusedVariables false
set_option linter.unusedSimpArgs false
set_option linter.unnecessarySimpa false
set_option maxRecDepth 100000




set_option maxHeartbeats 1600000 in
theorem szBlockS_step {ts : List Block} : SzR 34 (.row 2 (ts.flatMap Block.pd)) := by
  intro B v w left h0 h1 hB hwf h
  obtain ⟨A, n, c, rfl, hnl, hm, _⟩ := rep_row Block.pd_length (by decide) h
  unfold maxLen at hm
  rw [sz_row Block.pd_length (by decide), szL_fixed (fun t => by first | rfl | (obtain ⟨at_, size⟩ := t; rfl)), Nat.add_zero, ← hnl]
  clear h hnl hwf
  by_cases hl : (n : Int) ≤ left
  · rw [szLeft_yes hl]
    go_enter Try.func34, Try.ntmps34
    go_wp2_with fail
    go_ret
    exact ⟨rfl, Below.refl _ _⟩
  · rw [szLeft_no (by omega)]
    go_enter Try.func34, Try.ntmps34
    go_wp2_with fail
    go_ret
    exact ⟨rfl, Below.refl _ _⟩
theorem szBlockS_all (ts : List Block) : SzR 34 (.row 2 (ts.flatMap Block.pd)) := szBlockS_step

set_option maxHeartbeats 1600000 in
theorem szMemory_step {bytes : ByteArray} {free : List Block} (ih_free : SzR 34 (.row 2 (free.flatMap Block.pd))) : SzC 12 (Memory.pd ⟨bytes, free⟩) := by
  intro B cs w left h0 h1 hB hwf h
  obtain ⟨freeV, rfl, r_free⟩ := Memory.open_ h
  rw [Memory.pd_mk] at hwf
  simp only [PD.wfL, PD.wf, and_true, true_and] at hwf
  obtain ⟨wf_bytes, wf_free⟩ := hwf
  unfold maxLen at wf_bytes
  have W_free := Lib.hid wf_free
  have R_free := Lib.hid r_free
  clear wf_free r_free
  rw [show PD.szL (Memory.pd ⟨bytes, free⟩) = bytes.size + (PD.row 2 (free.flatMap Block.pd)).sz by simp only [Memory.pd_mk, PD.szL, PD.sz] <;> omega]
  obtain ⟨z1, hz1⟩ : ∃ z : Nat, z = (PD.row 2 (free.flatMap Block.pd)).sz := ⟨_, rfl⟩
  rw [← hz1]
  have Z1 := Lib.hid hz1
  clear hz1
  by_cases p0 : ((bytes.size : Nat) : Int) ≤ left
  case neg =>
    have eT := Lib.hid (szLeft_no (n := bytes.size + z1) (left := left) (by omega))
    go_enter Try.func12, Try.ntmps12
    go_wp2_with fail
    go_ret
    exact ⟨ret_int eT.out.symm, (Below.refl _ _).alloc (Nat.le_refl _) _⟩
  have q0 : 0 ≤ left - ((bytes.size : Nat) : Int) := by omega
  go_enter Try.func12, Try.ntmps12
  go_wp2_with fail
  obtain ⟨w0, hw0⟩ : ∃ w0, w0 = w.alloc (.cells #[.string bytes, freeV] 24) := ⟨_, rfl⟩
  rw [← hw0]
  have bA : Blk w0 w.heap.size 24 #[.string bytes, freeV] := by rw [hw0]; exact Blk.new w _ _
  have hB0 : Below w.heap.size w w0 := by rw [hw0]; exact (Below.refl _ _).alloc (Nat.le_refl _) _
  clear hw0
  refine (ih_free B freeV _ (left - (bytes.size : Int)) (by omega) (by omega) (Nat.le_trans hB hB0.size) W_free.out (R_free.out.below (hB0.mono hB))).mono ?_
  rintro e w1 ⟨rfl, hb1⟩
  have hB1 := hB0.trans (hb1.mono hB0.size)
  replace bA := bA.step hb1
  rw [← Z1.out]
  by_cases p1 : (z1 : Int) ≤ left - (bytes.size : Int)
  case neg =>
    rw [szLeft_no (by omega)]
    have eT := Lib.hid (szLeft_no (n := bytes.size + z1) (left := left) (by omega))
    go_wp2_with fail
    go_ret
    exact ⟨ret_int eT.out.symm, hB1⟩
  rw [szLeft_yes p1]
  have q1 : 0 ≤ left - (bytes.size : Int) - (z1 : Int) := by omega
  go_wp2_with fail
  have eT := Lib.hid (szLeft_yes (n := bytes.size + z1) (left := left) (by omega))
  go_ret
  exact ⟨ret_int (by rw [eT.out] <;> omega), hB1⟩
theorem szMemory_all (t : Memory) : SzC 12 (Memory.pd t) := by obtain ⟨bytes, free⟩ := t; exact szMemory_step szBlockS_step























end Go.Proofs.Ytlppngpafjfjeaa
