/-
  The laws' own helpers 'sz..' over the program's types (by program: tygen2.py, tyfam.py).
-/
import Derived.Test.YtokiagkoehjekaaFam
import Derived.Test.YtokiagkoehjekaaTy
namespace Go.Proofs.Ytokiagkoehjekaa
open Go.RowKit
set_option linter.unusedVariables false
set_option linter.unusedSimpArgs false
set_option linter.unnecessarySimpa false
set_option maxRecDepth 100000

















set_option maxHeartbeats 1600000 in
theorem szInsS_step {ts : List Ins} : SzR 14 (.row 2 (ts.flatMap Ins.pd)) := by
  intro B v w left h0 h1 hB hwf h
  obtain ⟨A, n, c, rfl, hnl, hm, _⟩ := rep_row Ins.pd_length (by decide) h
  unfold maxLen at hm
  rw [sz_row Ins.pd_length (by decide), szL_fixed (fun t => by first | rfl | (obtain ⟨op, a⟩ := t; rfl)), Nat.add_zero, ← hnl]
  clear h hnl hwf
  by_cases hl : (n : Int) ≤ left
  · rw [szLeft_yes hl]
    go_enter Try.func14, Try.ntmps14
    go_wp2_with fail
    go_ret
    exact ⟨rfl, Below.refl _ _⟩
  · rw [szLeft_no (by omega)]
    go_enter Try.func14, Try.ntmps14
    go_wp2_with fail
    go_ret
    exact ⟨rfl, Below.refl _ _⟩
theorem szInsS_all (ts : List Ins) : SzR 14 (.row 2 (ts.flatMap Ins.pd)) := szInsS_step








set_option maxHeartbeats 1600000 in
theorem szSection_step {id : Int} {name : ByteArray} {bytes : ByteArray} : SzC 26 (Section.pd ⟨id, name, bytes⟩) := by
  intro B cs w left h0 h1 hB hwf h
  obtain rfl := Section.open_ h
  rw [Section.pd_mk] at hwf
  simp only [PD.wfL, PD.wf, and_true, true_and] at hwf
  obtain ⟨wf_id, wf_name, wf_bytes⟩ := hwf
  clear wf_id
  unfold maxLen at wf_name
  unfold maxLen at wf_bytes
  rw [show PD.szL (Section.pd ⟨id, name, bytes⟩) = name.size + bytes.size by simp only [Section.pd_mk, PD.szL, PD.sz] <;> omega]
  by_cases p0 : ((name.size : Nat) : Int) ≤ left
  case neg =>
    have eT := Lib.hid (szLeft_no (n := name.size + bytes.size) (left := left) (by omega))
    go_enter Try.func26, Try.ntmps26
    go_wp2_with fail
    go_ret
    exact ⟨ret_int eT.out.symm, (Below.refl _ _).alloc (Nat.le_refl _) _⟩
  have q0 : 0 ≤ left - ((name.size : Nat) : Int) := by omega
  by_cases p1 : ((bytes.size : Nat) : Int) ≤ left - (name.size : Int)
  case neg =>
    have eT := Lib.hid (szLeft_no (n := name.size + bytes.size) (left := left) (by omega))
    go_enter Try.func26, Try.ntmps26
    go_wp2_with fail
    go_ret
    exact ⟨ret_int eT.out.symm, (Below.refl _ _).alloc (Nat.le_refl _) _⟩
  have q1 : 0 ≤ left - (name.size : Int) - ((bytes.size : Nat) : Int) := by omega
  go_enter Try.func26, Try.ntmps26
  go_wp2_with fail
  have eT := Lib.hid (szLeft_yes (n := name.size + bytes.size) (left := left) (by omega))
  go_ret
  exact ⟨ret_int (by rw [eT.out] <;> omega), (Below.refl _ _).alloc (Nat.le_refl _) _⟩
theorem szSection_all (t : Section) : SzC 26 (Section.pd t) := by obtain ⟨id, name, bytes⟩ := t; exact szSection_step 


set_option maxHeartbeats 1600000 in
theorem szSectionS_step {ts : List Section} (ih : ∀ t ∈ ts, SzC 26 (Section.pd t)) : SzR 9 (.row 3 (ts.flatMap Section.pd)) := by
  intro B v w left h0 h1 hB hwf h
  rw [PD.wf, wfL_flatMap] at hwf
  obtain ⟨A, n, c, rfl, hnl, hm, hat⟩ := rep_row Section.pd_length (by decide) h
  unfold maxLen at hm
  rw [sz_row Section.pd_length (by decide), ← hnl]
  have HN := Lib.hid hnl
  have HW := Lib.hid hwf
  have HI := Lib.hid ih
  clear ih
  clear h hnl hwf
  obtain ⟨S, hS⟩ : ∃ S : Nat, S = PD.szL (ts.flatMap Section.pd) := ⟨_, rfl⟩
  rw [← hS]
  have HS := Lib.hid hS
  clear hS
  by_cases hl : (n : Int) ≤ left
  · go_enter Try.func9, Try.ntmps9
    go_wp2_with fail
    go_loopw [1, 5] (fun l i wr => ∃ (k Q : Nat), k ≤ n ∧ l = .int .i64 (left - n - Q) ∧ i = .int .i64 k ∧ (n : Int) + Q ≤ left ∧ Hid (Q = PD.szL ((ts.take k).flatMap Section.pd)) ∧ Below w.heap.size w wr) (fun _ i _ => n - (intOf i).toNat)
    case atStart => exact ⟨0, 0, Nat.zero_le _, by simp, rfl, by omega, Lib.hid (by simp [PD.szL]), Below.refl _ _⟩
    case round =>
      obtain ⟨k, Q, hk, rfl, rfl, hQ, HQ, hbr⟩ := hrel
      by_cases hlt : k < n
      · obtain ⟨g, off, rfl, hg, hcell⟩ := hat (by omega)
        obtain ⟨t, hx, hmem⟩ := at_lt HN.out hlt
        have hnx := szL_take_succ (f := Section.pd) hx
        have hle := szL_get_le (f := Section.pd) hx
        rw [← HQ.out] at hnx hle
        rw [← HS.out] at hle
        obtain ⟨id, name, bytes⟩ := t
        have c0 : wr.cell? ⟨g, off + k * 3, none⟩ = some (.int .i64 id) := cell_lit hbr (by omega) (hcell k 0 _ _ hx (by rw [Section.pd_mk]; rfl))
        have c1 : wr.cell? ⟨g, off + k * 3 + 1, none⟩ = some (.string name) := cell_lit hbr (by omega) (hcell k 1 _ _ hx (by rw [Section.pd_mk]; rfl))
        have c2 : wr.cell? ⟨g, off + k * 3 + 2, none⟩ = some (.string bytes) := cell_lit hbr (by omega) (hcell k 2 _ _ hx (by rw [Section.pd_mk]; rfl))
        obtain ⟨z, hz⟩ : ∃ z : Nat, z = PD.szL (Section.pd ⟨id, name, bytes⟩) := ⟨_, rfl⟩
        have hc := HI.out _ hmem B [.int .i64 id, .string name, .string bytes] wr (left - n - Q) (by omega) (by omega) (Nat.le_trans hB hbr.size) (HW.out _ hmem) (Section.close_)
        rw [← hz] at hc hnx hle
        clear hx hcell hz
        have HC := Lib.hid hc
        have HX := Lib.hid hnx
        clear hc hnx
        go_wp2_with fail
        refine HC.out.mono ?_
        rintro e wq ⟨rfl, hbq⟩
        by_cases hzl : (z : Int) ≤ left - n - Q
        · rw [szLeft_yes hzl]
          have hp : 0 ≤ left - n - Q - (z : Int) := by omega
          go_wp2_with fail
          go_roundw
          case rel => exact ⟨k + 1, Q + z, by omega, by go_num, by go_num, by omega, Lib.hid HX.out.symm, hbr.trans (hbq.mono hbr.size)⟩
          case measure => simp [intOf]; omega
        · rw [szLeft_no (by omega)]
          have e2 := Lib.hid (szLeft_no (n := n + S) (show left < ((n + S : Nat) : Int) by omega))
          go_wp2_with fail
          go_ret
          exact ⟨ret_int e2.out.symm, hbr.trans (hbq.mono hbr.size)⟩
      · have hkn : k = n := by omega
        subst hkn
        have hqs : Q = S := by rw [HQ.out, HS.out, List.take_of_length_le (by have := HN.out; omega)]
        have e2 := Lib.hid (szLeft_yes (n := k + S) (left := left) (by omega))
        clear hqs
        have HQS : Hid (Q = S) := by have : Q = S := by rw [HQ.out, HS.out, List.take_of_length_le (by have := HN.out; omega)]
                                     exact Lib.hid this
        go_wp2_with fail
        go_ret
        exact ⟨ret_int (by rw [e2.out, HQS.out]; omega), hbr⟩
  · have e2 := Lib.hid (szLeft_no (n := n + S) (show left < ((n + S : Nat) : Int) by omega))
    go_enter Try.func9, Try.ntmps9
    go_wp2_with fail
    go_ret
    exact ⟨ret_int e2.out.symm, Below.refl _ _⟩
theorem szSectionS_all (ts : List Section) : SzR 9 (.row 3 (ts.flatMap Section.pd)) := szSectionS_step fun t _ => szSection_all t

end Go.Proofs.Ytokiagkoehjekaa
