/-
  The laws' own helpers 'sz..' over the program's types (by program: tygen2.py, tyfam.py).
-/
import Derived.Test.YthkmofeclffifaaFam
import Derived.Test.YthkmofeclffifaaTy
namespace Go.Proofs.Ythkmofeclffifaa
open Go.RowKit
set_option linter.unusedVariables false
set_option linter.unusedSimpArgs false
set_option linter.unnecessarySimpa false
set_option maxRecDepth 100000























set_option maxHeartbeats 1600000 in
theorem szMoveS_step {ts : List Move} (ih : ∀ t ∈ ts, SzC 9 (Move.pd t)) : SzR 4 (.row 8 (ts.flatMap Move.pd)) := by
  intro B v w left h0 h1 hB hwf h
  rw [PD.wf, wfL_flatMap] at hwf
  obtain ⟨A, n, c, rfl, hnl, hm, hat⟩ := rep_row Move.pd_length (by decide) h
  unfold maxLen at hm
  rw [sz_row Move.pd_length (by decide), ← hnl]
  have HN := Lib.hid hnl
  have HW := Lib.hid hwf
  have HI := Lib.hid ih
  clear ih
  clear h hnl hwf
  obtain ⟨S, hS⟩ : ∃ S : Nat, S = PD.szL (ts.flatMap Move.pd) := ⟨_, rfl⟩
  rw [← hS]
  have HS := Lib.hid hS
  clear hS
  by_cases hl : (n : Int) ≤ left
  · go_enter Try.func4, Try.ntmps4
    go_wp2_with fail
    go_loopw [1, 5] (fun l i wr => ∃ (k Q : Nat), k ≤ n ∧ l = .int .i64 (left - n - Q) ∧ i = .int .i64 k ∧ (n : Int) + Q ≤ left ∧ Hid (Q = PD.szL ((ts.take k).flatMap Move.pd)) ∧ Below w.heap.size w wr) (fun _ i _ => n - (intOf i).toNat)
    case atStart => exact ⟨0, 0, Nat.zero_le _, by simp, rfl, by omega, Lib.hid (by simp [PD.szL]), Below.refl _ _⟩
    case round =>
      obtain ⟨k, Q, hk, rfl, rfl, hQ, HQ, hbr⟩ := hrel
      by_cases hlt : k < n
      · obtain ⟨g, off, rfl, hg, hcell⟩ := hat (by omega)
        obtain ⟨t, hx, hmem⟩ := at_lt HN.out hlt
        have hnx := szL_take_succ (f := Move.pd) hx
        have hle := szL_get_le (f := Move.pd) hx
        rw [← HQ.out] at hnx hle
        rw [← HS.out] at hle
        obtain ⟨kind, at_, size, align, typ, most, name, kids⟩ := t
        have c0 : wr.cell? ⟨g, off + k * 8, none⟩ = some (.int .i64 kind) := cell_lit hbr (by omega) (hcell k 0 _ _ hx (by rw [Move.pd_mk]; rfl))
        have c1 : wr.cell? ⟨g, off + k * 8 + 1, none⟩ = some (.int .i64 at_) := cell_lit hbr (by omega) (hcell k 1 _ _ hx (by rw [Move.pd_mk]; rfl))
        have c2 : wr.cell? ⟨g, off + k * 8 + 2, none⟩ = some (.int .i64 size) := cell_lit hbr (by omega) (hcell k 2 _ _ hx (by rw [Move.pd_mk]; rfl))
        have c3 : wr.cell? ⟨g, off + k * 8 + 3, none⟩ = some (.int .i64 align) := cell_lit hbr (by omega) (hcell k 3 _ _ hx (by rw [Move.pd_mk]; rfl))
        have c4 : wr.cell? ⟨g, off + k * 8 + 4, none⟩ = some (.int .i64 typ) := cell_lit hbr (by omega) (hcell k 4 _ _ hx (by rw [Move.pd_mk]; rfl))
        have c5 : wr.cell? ⟨g, off + k * 8 + 5, none⟩ = some (.int .i64 most) := cell_lit hbr (by omega) (hcell k 5 _ _ hx (by rw [Move.pd_mk]; rfl))
        have c6 : wr.cell? ⟨g, off + k * 8 + 6, none⟩ = some (.string name) := cell_lit hbr (by omega) (hcell k 6 _ _ hx (by rw [Move.pd_mk]; rfl))
        obtain ⟨kidsV, c7, hr7⟩ : ∃ u, wr.cell? ⟨g, off + k * 8 + 7, none⟩ = some u ∧ Rep wr B (.row 1 (kids.flatMap rowCMoveS)) u := cell_rep hbr (by omega) hB (hcell k 7 _ _ hx (by rw [Move.pd_mk]; rfl))
        have HR7 := Lib.hid hr7
        clear hr7
        obtain ⟨z, hz⟩ : ∃ z : Nat, z = PD.szL (Move.pd ⟨kind, at_, size, align, typ, most, name, kids⟩) := ⟨_, rfl⟩
        have hc := HI.out _ hmem B [.int .i64 kind, .int .i64 at_, .int .i64 size, .int .i64 align, .int .i64 typ, .int .i64 most, .string name, kidsV] wr (left - n - Q) (by omega) (by omega) (Nat.le_trans hB hbr.size) (HW.out _ hmem) (Move.close_ HR7.out)
        rw [← hz] at hc hnx hle
        clear hx hcell hz
        have HC := Lib.hid hc
        have HX := Lib.hid hnx
        clear hc hnx
        go_wp2_with fail
        refine HC.out.mono ?_
        rintro e wq ⟨rfl, hbq⟩
        by_cases hzl : (z : Int) ≤ left - n - Q
        · rw [szLeft_yes hzl]
          have hp : 0 ≤ left - n - Q - (z : Int) := by omega
          go_wp2_with fail
          go_roundw
          case rel => exact ⟨k + 1, Q + z, by omega, by go_num, by go_num, by omega, Lib.hid HX.out.symm, hbr.trans (hbq.mono hbr.size)⟩
          case measure => simp [intOf]; omega
        · rw [szLeft_no (by omega)]
          have e2 := Lib.hid (szLeft_no (n := n + S) (show left < ((n + S : Nat) : Int) by omega))
          go_wp2_with fail
          go_ret
          exact ⟨ret_int e2.out.symm, hbr.trans (hbq.mono hbr.size)⟩
      · have hkn : k = n := by omega
        subst hkn
        have hqs : Q = S := by rw [HQ.out, HS.out, List.take_of_length_le (by have := HN.out; omega)]
        have e2 := Lib.hid (szLeft_yes (n := k + S) (left := left) (by omega))
        clear hqs
        have HQS : Hid (Q = S) := by have : Q = S := by rw [HQ.out, HS.out, List.take_of_length_le (by have := HN.out; omega)]
                                     exact Lib.hid this
        go_wp2_with fail
        go_ret
        exact ⟨ret_int (by rw [e2.out, HQS.out]; omega), hbr⟩
  · have e2 := Lib.hid (szLeft_no (n := n + S) (show left < ((n + S : Nat) : Int) by omega))
    go_enter Try.func4, Try.ntmps4
    go_wp2_with fail
    go_ret
    exact ⟨ret_int e2.out.symm, Below.refl _ _⟩
set_option maxHeartbeats 1600000 in
theorem szMoveSS_step {ts : List (List Move)} (ih : ∀ t ∈ ts, SzR 4 (.row 8 (t.flatMap Move.pd))) : SzR 14 (.row 1 (ts.flatMap rowCMoveS)) := by
  intro B v w left h0 h1 hB hwf h
  rw [PD.wf, wfL_flatMap] at hwf
  obtain ⟨A, n, c, rfl, hnl, hm, hat⟩ := rep_row rowCMoveS_length (by decide) h
  unfold maxLen at hm
  rw [sz_row rowCMoveS_length (by decide), ← hnl]
  have HN := Lib.hid hnl
  have HW := Lib.hid hwf
  have HI := Lib.hid ih
  clear ih
  clear h hnl hwf
  obtain ⟨S, hS⟩ : ∃ S : Nat, S = PD.szL (ts.flatMap rowCMoveS) := ⟨_, rfl⟩
  rw [← hS]
  have HS := Lib.hid hS
  clear hS
  by_cases hl : (n : Int) ≤ left
  · go_enter Try.func14, Try.ntmps14
    go_wp2_with fail
    go_loopw [1, 5] (fun l i wr => ∃ (k Q : Nat), k ≤ n ∧ l = .int .i64 (left - n - Q) ∧ i = .int .i64 k ∧ (n : Int) + Q ≤ left ∧ Hid (Q = PD.szL ((ts.take k).flatMap rowCMoveS)) ∧ Below w.heap.size w wr) (fun _ i _ => n - (intOf i).toNat)
    case atStart => exact ⟨0, 0, Nat.zero_le _, by simp, rfl, by omega, Lib.hid (by simp [PD.szL]), Below.refl _ _⟩
    case round =>
      obtain ⟨k, Q, hk, rfl, rfl, hQ, HQ, hbr⟩ := hrel
      by_cases hlt : k < n
      · obtain ⟨g, off, rfl, hg, hcell⟩ := hat (by omega)
        obtain ⟨t, hx, hmem⟩ := at_lt HN.out hlt
        have hnx := szL_take_succ (f := rowCMoveS) hx
        have hle := szL_get_le (f := rowCMoveS) hx
        rw [← HQ.out] at hnx hle
        rw [← HS.out] at hle
        obtain ⟨tV, c0, hr0⟩ : ∃ u, wr.cell? ⟨g, off + k, none⟩ = some u ∧ Rep wr B (.row 8 (t.flatMap Move.pd)) u := cell_rep hbr (by omega) hB (by have := hcell k 0 _ _ hx rfl; simpa using this)
        have HR0 := Lib.hid hr0
        clear hr0
        obtain ⟨z, hz⟩ : ∃ z : Nat, z = PD.szL (rowCMoveS t) := ⟨_, rfl⟩
        have hc := HI.out _ hmem B tV wr (left - n - Q) (by omega) (by omega) (Nat.le_trans hB hbr.size) (by have := HW.out _ hmem; simpa [rowCMoveS, PD.wfL] using this) HR0.out
        rw [show (PD.row 8 (t.flatMap Move.pd)).sz = PD.szL (rowCMoveS t) by simp [rowCMoveS, PD.szL]] at hc; rw [← hz] at hc hnx hle
        clear hx hcell hz
        have HC := Lib.hid hc
        have HX := Lib.hid hnx
        clear hc hnx
        go_wp2_with fail
        refine HC.out.mono ?_
        rintro e wq ⟨rfl, hbq⟩
        by_cases hzl : (z : Int) ≤ left - n - Q
        · rw [szLeft_yes hzl]
          have hp : 0 ≤ left - n - Q - (z : Int) := by omega
          go_wp2_with fail
          go_roundw
          case rel => exact ⟨k + 1, Q + z, by omega, by go_num, by go_num, by omega, Lib.hid HX.out.symm, hbr.trans (hbq.mono hbr.size)⟩
          case measure => simp [intOf]; omega
        · rw [szLeft_no (by omega)]
          have e2 := Lib.hid (szLeft_no (n := n + S) (show left < ((n + S : Nat) : Int) by omega))
          go_wp2_with fail
          go_ret
          exact ⟨ret_int e2.out.symm, hbr.trans (hbq.mono hbr.size)⟩
      · have hkn : k = n := by omega
        subst hkn
        have hqs : Q = S := by rw [HQ.out, HS.out, List.take_of_length_le (by have := HN.out; omega)]
        have e2 := Lib.hid (szLeft_yes (n := k + S) (left := left) (by omega))
        clear hqs
        have HQS : Hid (Q = S) := by have : Q = S := by rw [HQ.out, HS.out, List.take_of_length_le (by have := HN.out; omega)]
                                     exact Lib.hid this
        go_wp2_with fail
        go_ret
        exact ⟨ret_int (by rw [e2.out, HQS.out]; omega), hbr⟩
  · have e2 := Lib.hid (szLeft_no (n := n + S) (show left < ((n + S : Nat) : Int) by omega))
    go_enter Try.func14, Try.ntmps14
    go_wp2_with fail
    go_ret
    exact ⟨ret_int e2.out.symm, Below.refl _ _⟩
set_option maxHeartbeats 1600000 in
theorem szMove_step {kind : Int} {at_ : Int} {size : Int} {align : Int} {typ : Int} {most : Int} {name : ByteArray} {kids : List (List Move)} (ih_kids : SzR 14 (.row 1 (kids.flatMap rowCMoveS))) : SzC 9 (Move.pd ⟨kind, at_, size, align, typ, most, name, kids⟩) := by
  intro B cs w left h0 h1 hB hwf h
  obtain ⟨kidsV, rfl, r_kids⟩ := Move.open_ h
  rw [Move.pd_mk] at hwf
  simp only [PD.wfL, PD.wf, and_true, true_and] at hwf
  obtain ⟨wf_kind, wf_at_, wf_size, wf_align, wf_typ, wf_most, wf_name, wf_kids⟩ := hwf
  clear wf_kind
  clear wf_at_
  clear wf_size
  clear wf_align
  clear wf_typ
  clear wf_most
  unfold maxLen at wf_name
  have W_kids := Lib.hid wf_kids
  have R_kids := Lib.hid r_kids
  clear wf_kids r_kids
  rw [show PD.szL (Move.pd ⟨kind, at_, size, align, typ, most, name, kids⟩) = name.size + (PD.row 1 (kids.flatMap rowCMoveS)).sz by simp only [Move.pd_mk, PD.szL, PD.sz] <;> omega]
  obtain ⟨z1, hz1⟩ : ∃ z : Nat, z = (PD.row 1 (kids.flatMap rowCMoveS)).sz := ⟨_, rfl⟩
  rw [← hz1]
  have Z1 := Lib.hid hz1
  clear hz1
  by_cases p0 : ((name.size : Nat) : Int) ≤ left
  case neg =>
    have eT := Lib.hid (szLeft_no (n := name.size + z1) (left := left) (by omega))
    go_enter Try.func9, Try.ntmps9
    go_wp2_with fail
    go_ret
    exact ⟨ret_int eT.out.symm, (Below.refl _ _).alloc (Nat.le_refl _) _⟩
  have q0 : 0 ≤ left - ((name.size : Nat) : Int) := by omega
  go_enter Try.func9, Try.ntmps9
  go_wp2_with fail
  obtain ⟨w0, hw0⟩ : ∃ w0, w0 = w.alloc (.cells #[.int .i64 kind, .int .i64 at_, .int .i64 size, .int .i64 align, .int .i64 typ, .int .i64 most, .string name, kidsV] 32) := ⟨_, rfl⟩
  rw [← hw0]
  have bA : Blk w0 w.heap.size 32 #[.int .i64 kind, .int .i64 at_, .int .i64 size, .int .i64 align, .int .i64 typ, .int .i64 most, .string name, kidsV] := by rw [hw0]; exact Blk.new w _ _
  have hB0 : Below w.heap.size w w0 := by rw [hw0]; exact (Below.refl _ _).alloc (Nat.le_refl _) _
  clear hw0
  refine (ih_kids B kidsV _ (left - (name.size : Int)) (by omega) (by omega) (Nat.le_trans hB hB0.size) W_kids.out (R_kids.out.below (hB0.mono hB))).mono ?_
  rintro e w1 ⟨rfl, hb1⟩
  have hB1 := hB0.trans (hb1.mono hB0.size)
  replace bA := bA.step hb1
  rw [← Z1.out]
  by_cases p1 : (z1 : Int) ≤ left - (name.size : Int)
  case neg =>
    rw [szLeft_no (by omega)]
    have eT := Lib.hid (szLeft_no (n := name.size + z1) (left := left) (by omega))
    go_wp2_with fail
    go_ret
    exact ⟨ret_int eT.out.symm, hB1⟩
  rw [szLeft_yes p1]
  have q1 : 0 ≤ left - (name.size : Int) - (z1 : Int) := by omega
  go_wp2_with fail
  have eT := Lib.hid (szLeft_yes (n := name.size + z1) (left := left) (by omega))
  go_ret
  exact ⟨ret_int (by rw [eT.out] <;> omega), hB1⟩
mutual
theorem szMove_all : ∀ t : Move, SzC 9 (Move.pd t)
  | .mk kind at_ size align typ most name kids => szMove_step (szMoveSS_step (szMove_memS kids))
theorem szMove_mem : ∀ ts : List Move, ∀ t ∈ ts, SzC 9 (Move.pd t)
  | [], x, hx => absurd hx (by simp)
  | t :: r, x, hx => (List.mem_cons.1 hx).elim (fun e => e ▸ szMove_all t) (fun h => szMove_mem r x h)
theorem szMove_memS : ∀ ts : List (List Move), ∀ t ∈ ts, SzR 4 (.row 8 (t.flatMap Move.pd))
  | [], x, hx => absurd hx (by simp)
  | t :: r, x, hx => (List.mem_cons.1 hx).elim (fun e => e ▸ szMoveS_step (szMove_mem t)) (fun h => szMove_memS r x h)
end
theorem szMoveS_all (ts : List Move) : SzR 4 (.row 8 (ts.flatMap Move.pd)) := szMoveS_step fun t _ => szMove_all t
theorem szMoveSS_all (ts : List (List Move)) : SzR 14 (.row 1 (ts.flatMap rowCMoveS)) := szMoveSS_step fun t _ => szMoveS_all t




end Go.Proofs.Ythkmofeclffifaa
