/-
  The laws' own helpers 'sz..' over the program's types (by program: tygen2.py, tyfam.py).
-/
import Derived.Test.YtbafphecjijdmaaGreatDoorFam
import Derived.Test.YtbafphecjijdmaaGreatDoorTy
namespace Go.Proofs.YtbafphecjijdmaaGreatDoor
open Go.RowKit
set_option linter.unusedVariables false
set_option linter.unusedSimpArgs false
set_option linter.unnecessarySimpa false
set_option maxRecDepth 100000


set_option maxHeartbeats 1600000 in
theorem szStringS_step {ts : List ByteArray} : SzR 25 (.row 1 (ts.flatMap strC)) := by
  intro B v w left h0 h1 hB hwf h
  rw [PD.wf, wfL_flatMap] at hwf
  obtain ⟨A, n, c, rfl, hnl, hm, hat⟩ := rep_row strC_length (by decide) h
  unfold maxLen at hm
  rw [sz_row strC_length (by decide), ← hnl]
  have HN := Lib.hid hnl
  have HW := Lib.hid hwf
  clear h hnl hwf
  obtain ⟨S, hS⟩ : ∃ S : Nat, S = PD.szL (ts.flatMap strC) := ⟨_, rfl⟩
  rw [← hS]
  have HS := Lib.hid hS
  clear hS
  by_cases hl : (n : Int) ≤ left
  · go_enter Tryz.func25, Tryz.ntmps25
    go_wp2_with fail
    go_loopw [1, 5] (fun l i wr => ∃ (k Q : Nat), k ≤ n ∧ l = .int .i64 (left - n - Q) ∧ i = .int .i64 k ∧ (n : Int) + Q ≤ left ∧ Hid (Q = PD.szL ((ts.take k).flatMap strC)) ∧ Below w.heap.size w wr) (fun _ i _ => n - (intOf i).toNat)
    case atStart => exact ⟨0, 0, Nat.zero_le _, by simp, rfl, by omega, Lib.hid (by simp [PD.szL]), Below.refl _ _⟩
    case round =>
      obtain ⟨k, Q, hk, rfl, rfl, hQ, HQ, hbr⟩ := hrel
      by_cases hlt : k < n
      · obtain ⟨g, off, rfl, hg, hcell⟩ := hat (by omega)
        obtain ⟨t, hx, hmem⟩ := at_lt HN.out hlt
        have hnx := szL_take_succ (f := strC) hx
        have hle := szL_get_le (f := strC) hx
        rw [← HQ.out] at hnx hle
        rw [← HS.out] at hle
        have c0 : wr.cell? ⟨g, off + k, none⟩ = some (.string t) := cell_lit hbr (by omega) (by have := hcell k 0 _ _ hx rfl; simpa using this)
        rw [szL_strC] at hnx hle
        have hsz : t.size ≤ maxLen := by have := HW.out _ hmem; simpa [strC, PD.wfL, PD.wf] using this
        unfold maxLen at hsz
        have HX := Lib.hid hnx
        clear hx hcell hnx
        by_cases hzl : (t.size : Int) ≤ left - n - Q
        · have hp : 0 ≤ left - n - Q - (t.size : Int) := by omega
          go_wp2_with fail
          go_roundw
          case rel => exact ⟨k + 1, Q + t.size, by omega, by go_num, by go_num, by omega, Lib.hid HX.out.symm, hbr⟩
          case measure => simp [intOf]; omega
        · have e2 := Lib.hid (szLeft_no (n := n + S) (show left < ((n + S : Nat) : Int) by omega))
          go_wp2_with fail
          go_ret
          exact ⟨ret_int e2.out.symm, hbr⟩
      · have hkn : k = n := by omega
        subst hkn
        have hqs : Q = S := by rw [HQ.out, HS.out, List.take_of_length_le (by have := HN.out; omega)]
        have e2 := Lib.hid (szLeft_yes (n := k + S) (left := left) (by omega))
        clear hqs
        have HQS : Hid (Q = S) := by have : Q = S := by rw [HQ.out, HS.out, List.take_of_length_le (by have := HN.out; omega)]
                                     exact Lib.hid this
        go_wp2_with fail
        go_ret
        exact ⟨ret_int (by rw [e2.out, HQS.out]; omega), hbr⟩
  · have e2 := Lib.hid (szLeft_no (n := n + S) (show left < ((n + S : Nat) : Int) by omega))
    go_enter Tryz.func25, Tryz.ntmps25
    go_wp2_with fail
    go_ret
    exact ⟨ret_int e2.out.symm, Below.refl _ _⟩
theorem szStringS_all (ts : List ByteArray) : SzR 25 (.row 1 (ts.flatMap strC)) := szStringS_step




set_option maxHeartbeats 1600000 in
theorem szTypeS_step {ts : List Ty} (ih : ∀ t ∈ ts, SzC 44 (Ty.pd t)) : SzR 78 (.row 4 (ts.flatMap Ty.pd)) := by
  intro B v w left h0 h1 hB hwf h
  rw [PD.wf, wfL_flatMap] at hwf
  obtain ⟨A, n, c, rfl, hnl, hm, hat⟩ := rep_row Ty.pd_length (by decide) h
  unfold maxLen at hm
  rw [sz_row Ty.pd_length (by decide), ← hnl]
  have HN := Lib.hid hnl
  have HW := Lib.hid hwf
  have HI := Lib.hid ih
  clear ih
  clear h hnl hwf
  obtain ⟨S, hS⟩ : ∃ S : Nat, S = PD.szL (ts.flatMap Ty.pd) := ⟨_, rfl⟩
  rw [← hS]
  have HS := Lib.hid hS
  clear hS
  by_cases hl : (n : Int) ≤ left
  · go_enter Tryz.func78, Tryz.ntmps78
    go_wp2_with fail
    go_loopw [1, 5] (fun l i wr => ∃ (k Q : Nat), k ≤ n ∧ l = .int .i64 (left - n - Q) ∧ i = .int .i64 k ∧ (n : Int) + Q ≤ left ∧ Hid (Q = PD.szL ((ts.take k).flatMap Ty.pd)) ∧ Below w.heap.size w wr) (fun _ i _ => n - (intOf i).toNat)
    case atStart => exact ⟨0, 0, Nat.zero_le _, by simp, rfl, by omega, Lib.hid (by simp [PD.szL]), Below.refl _ _⟩
    case round =>
      obtain ⟨k, Q, hk, rfl, rfl, hQ, HQ, hbr⟩ := hrel
      by_cases hlt : k < n
      · obtain ⟨g, off, rfl, hg, hcell⟩ := hat (by omega)
        obtain ⟨t, hx, hmem⟩ := at_lt HN.out hlt
        have hnx := szL_take_succ (f := Ty.pd) hx
        have hle := szL_get_le (f := Ty.pd) hx
        rw [← HQ.out] at hnx hle
        rw [← HS.out] at hle
        obtain ⟨kind, name, labels, kids⟩ := t
        have c0 : wr.cell? ⟨g, off + k * 4, none⟩ = some (.int .i64 kind) := cell_lit hbr (by omega) (hcell k 0 _ _ hx (by rw [Ty.pd_mk]; rfl))
        have c1 : wr.cell? ⟨g, off + k * 4 + 1, none⟩ = some (.string name) := cell_lit hbr (by omega) (hcell k 1 _ _ hx (by rw [Ty.pd_mk]; rfl))
        obtain ⟨labelsV, c2, hr2⟩ : ∃ u, wr.cell? ⟨g, off + k * 4 + 2, none⟩ = some u ∧ Rep wr B (.row 1 (labels.flatMap strC)) u := cell_rep hbr (by omega) hB (hcell k 2 _ _ hx (by rw [Ty.pd_mk]; rfl))
        have HR2 := Lib.hid hr2
        clear hr2
        obtain ⟨kidsV, c3, hr3⟩ : ∃ u, wr.cell? ⟨g, off + k * 4 + 3, none⟩ = some u ∧ Rep wr B (.row 4 (kids.flatMap Ty.pd)) u := cell_rep hbr (by omega) hB (hcell k 3 _ _ hx (by rw [Ty.pd_mk]; rfl))
        have HR3 := Lib.hid hr3
        clear hr3
        obtain ⟨z, hz⟩ : ∃ z : Nat, z = PD.szL (Ty.pd ⟨kind, name, labels, kids⟩) := ⟨_, rfl⟩
        have hc := HI.out _ hmem B [.int .i64 kind, .string name, labelsV, kidsV] wr (left - n - Q) (by omega) (by omega) (Nat.le_trans hB hbr.size) (HW.out _ hmem) (Ty.close_ HR2.out HR3.out)
        rw [← hz] at hc hnx hle
        clear hx hcell hz
        have HC := Lib.hid hc
        have HX := Lib.hid hnx
        clear hc hnx
        go_wp2_with fail
        refine HC.out.mono ?_
        rintro e wq ⟨rfl, hbq⟩
        by_cases hzl : (z : Int) ≤ left - n - Q
        · rw [szLeft_yes hzl]
          have hp : 0 ≤ left - n - Q - (z : Int) := by omega
          go_wp2_with fail
          go_roundw
          case rel => exact ⟨k + 1, Q + z, by omega, by go_num, by go_num, by omega, Lib.hid HX.out.symm, hbr.trans (hbq.mono hbr.size)⟩
          case measure => simp [intOf]; omega
        · rw [szLeft_no (by omega)]
          have e2 := Lib.hid (szLeft_no (n := n + S) (show left < ((n + S : Nat) : Int) by omega))
          go_wp2_with fail
          go_ret
          exact ⟨ret_int e2.out.symm, hbr.trans (hbq.mono hbr.size)⟩
      · have hkn : k = n := by omega
        subst hkn
        have hqs : Q = S := by rw [HQ.out, HS.out, List.take_of_length_le (by have := HN.out; omega)]
        have e2 := Lib.hid (szLeft_yes (n := k + S) (left := left) (by omega))
        clear hqs
        have HQS : Hid (Q = S) := by have : Q = S := by rw [HQ.out, HS.out, List.take_of_length_le (by have := HN.out; omega)]
                                     exact Lib.hid this
        go_wp2_with fail
        go_ret
        exact ⟨ret_int (by rw [e2.out, HQS.out]; omega), hbr⟩
  · have e2 := Lib.hid (szLeft_no (n := n + S) (show left < ((n + S : Nat) : Int) by omega))
    go_enter Tryz.func78, Tryz.ntmps78
    go_wp2_with fail
    go_ret
    exact ⟨ret_int e2.out.symm, Below.refl _ _⟩
set_option maxHeartbeats 1600000 in
theorem szType_step {kind : Int} {name : ByteArray} {labels : List ByteArray} {kids : List Ty} (ih_labels : SzR 25 (.row 1 (labels.flatMap strC))) (ih_kids : SzR 78 (.row 4 (kids.flatMap Ty.pd))) : SzC 44 (Ty.pd ⟨kind, name, labels, kids⟩) := by
  intro B cs w left h0 h1 hB hwf h
  obtain ⟨labelsV, kidsV, rfl, r_labels, r_kids⟩ := Ty.open_ h
  rw [Ty.pd_mk] at hwf
  simp only [PD.wfL, PD.wf, and_true, true_and] at hwf
  obtain ⟨wf_kind, wf_name, wf_labels, wf_kids⟩ := hwf
  clear wf_kind
  unfold maxLen at wf_name
  have W_labels := Lib.hid wf_labels
  have R_labels := Lib.hid r_labels
  clear wf_labels r_labels
  have W_kids := Lib.hid wf_kids
  have R_kids := Lib.hid r_kids
  clear wf_kids r_kids
  rw [show PD.szL (Ty.pd ⟨kind, name, labels, kids⟩) = name.size + (PD.row 1 (labels.flatMap strC)).sz + (PD.row 4 (kids.flatMap Ty.pd)).sz by simp only [Ty.pd_mk, PD.szL, PD.sz] <;> omega]
  obtain ⟨z1, hz1⟩ : ∃ z : Nat, z = (PD.row 1 (labels.flatMap strC)).sz := ⟨_, rfl⟩
  rw [← hz1]
  have Z1 := Lib.hid hz1
  clear hz1
  obtain ⟨z2, hz2⟩ : ∃ z : Nat, z = (PD.row 4 (kids.flatMap Ty.pd)).sz := ⟨_, rfl⟩
  rw [← hz2]
  have Z2 := Lib.hid hz2
  clear hz2
  by_cases p0 : ((name.size : Nat) : Int) ≤ left
  case neg =>
    have eT := Lib.hid (szLeft_no (n := name.size + z1 + z2) (left := left) (by omega))
    go_enter Tryz.func44, Tryz.ntmps44
    go_wp2_with fail
    go_ret
    exact ⟨ret_int eT.out.symm, (Below.refl _ _).alloc (Nat.le_refl _) _⟩
  have q0 : 0 ≤ left - ((name.size : Nat) : Int) := by omega
  go_enter Tryz.func44, Tryz.ntmps44
  go_wp2_with fail
  obtain ⟨w0, hw0⟩ : ∃ w0, w0 = w.alloc (.cells #[.int .i64 kind, .string name, labelsV, kidsV] 52) := ⟨_, rfl⟩
  rw [← hw0]
  have bA : Blk w0 w.heap.size 52 #[.int .i64 kind, .string name, labelsV, kidsV] := by rw [hw0]; exact Blk.new w _ _
  have hB0 : Below w.heap.size w w0 := by rw [hw0]; exact (Below.refl _ _).alloc (Nat.le_refl _) _
  clear hw0
  refine (ih_labels B labelsV _ (left - (name.size : Int)) (by omega) (by omega) (Nat.le_trans hB hB0.size) W_labels.out (R_labels.out.below (hB0.mono hB))).mono ?_
  rintro e w1 ⟨rfl, hb1⟩
  have hB1 := hB0.trans (hb1.mono hB0.size)
  replace bA := bA.step hb1
  rw [← Z1.out]
  by_cases p1 : (z1 : Int) ≤ left - (name.size : Int)
  case neg =>
    rw [szLeft_no (by omega)]
    have eT := Lib.hid (szLeft_no (n := name.size + z1 + z2) (left := left) (by omega))
    go_wp2_with fail
    go_ret
    exact ⟨ret_int eT.out.symm, hB1⟩
  rw [szLeft_yes p1]
  have q1 : 0 ≤ left - (name.size : Int) - (z1 : Int) := by omega
  have a1_3 : w1.cell? ⟨w.heap.size, 3, none⟩ = some (kidsV) := bA.cell 3
  go_wp2_with fail
  refine (ih_kids B kidsV _ (left - (name.size : Int) - (z1 : Int)) (by omega) (by omega) (Nat.le_trans hB hB1.size) W_kids.out (R_kids.out.below (hB1.mono hB))).mono ?_
  rintro e w2 ⟨rfl, hb2⟩
  have hB2 := hB1.trans (hb2.mono hB1.size)
  replace bA := bA.step hb2
  rw [← Z2.out]
  by_cases p2 : (z2 : Int) ≤ left - (name.size : Int) - (z1 : Int)
  case neg =>
    rw [szLeft_no (by omega)]
    have eT := Lib.hid (szLeft_no (n := name.size + z1 + z2) (left := left) (by omega))
    go_wp2_with fail
    go_ret
    exact ⟨ret_int eT.out.symm, hB2⟩
  rw [szLeft_yes p2]
  have q2 : 0 ≤ left - (name.size : Int) - (z1 : Int) - (z2 : Int) := by omega
  go_wp2_with fail
  have eT := Lib.hid (szLeft_yes (n := name.size + z1 + z2) (left := left) (by omega))
  go_ret
  exact ⟨ret_int (by rw [eT.out] <;> omega), hB2⟩
mutual
theorem szType_all : ∀ t : Ty, SzC 44 (Ty.pd t)
  | .mk kind name labels kids => szType_step szStringS_step (szTypeS_step (szType_mem kids))
theorem szType_mem : ∀ ts : List Ty, ∀ t ∈ ts, SzC 44 (Ty.pd t)
  | [], x, hx => absurd hx (by simp)
  | t :: r, x, hx => (List.mem_cons.1 hx).elim (fun e => e ▸ szType_all t) (fun h => szType_mem r x h)
end
theorem szTypeS_all (ts : List Ty) : SzR 78 (.row 4 (ts.flatMap Ty.pd)) := szTypeS_step fun t _ => szType_all t

set_option maxHeartbeats 1600000 in
theorem szParam_step {name : ByteArray} {typ_kind : Int} {typ_name : ByteArray} {typ_labels : List ByteArray} {typ_kids : List Ty} (ih_typ : SzC 44 (Ty.pd ⟨typ_kind, typ_name, typ_labels, typ_kids⟩)) : SzC 77 (Param.pd ⟨name, ⟨typ_kind, typ_name, typ_labels, typ_kids⟩⟩) := by
  intro B cs w left h0 h1 hB hwf h
  obtain ⟨typ_labelsV, typ_kidsV, rfl, r_typ_labels, r_typ_kids⟩ := Param.open_ h
  rw [Param.pd_mk] at hwf
  simp only [PD.wfL, PD.wf, and_true, true_and] at hwf
  obtain ⟨wf_name, wf_typ_kind, wf_typ_name, wf_typ_labels, wf_typ_kids⟩ := hwf
  unfold maxLen at wf_name
  have I_typ_kind := Lib.hid wf_typ_kind
  clear wf_typ_kind
  unfold maxLen at wf_typ_name
  have W_typ_labels := Lib.hid wf_typ_labels
  have R_typ_labels := Lib.hid r_typ_labels
  clear wf_typ_labels r_typ_labels
  have W_typ_kids := Lib.hid wf_typ_kids
  have R_typ_kids := Lib.hid r_typ_kids
  clear wf_typ_kids r_typ_kids
  rw [show PD.szL (Param.pd ⟨name, ⟨typ_kind, typ_name, typ_labels, typ_kids⟩⟩) = name.size + PD.szL (Ty.pd ⟨typ_kind, typ_name, typ_labels, typ_kids⟩) by simp only [Param.pd_mk, PD.szL, PD.sz, Ty.pd_mk] <;> omega]
  obtain ⟨z1, hz1⟩ : ∃ z : Nat, z = PD.szL (Ty.pd ⟨typ_kind, typ_name, typ_labels, typ_kids⟩) := ⟨_, rfl⟩
  rw [← hz1]
  have Z1 := Lib.hid hz1
  clear hz1
  have wf__typ : PD.wfL (Ty.pd ⟨typ_kind, typ_name, typ_labels, typ_kids⟩) := by rw [Ty.pd_mk]; simp only [PD.wfL, PD.wf, and_true, true_and]; exact ⟨I_typ_kind.out, by unfold maxLen; exact wf_typ_name, W_typ_labels.out, W_typ_kids.out⟩
  have W__typ := Lib.hid wf__typ
  clear wf__typ
  by_cases p0 : ((name.size : Nat) : Int) ≤ left
  case neg =>
    have eT := Lib.hid (szLeft_no (n := name.size + z1) (left := left) (by omega))
    go_enter Tryz.func77, Tryz.ntmps77
    go_wp2_with fail
    go_ret
    exact ⟨ret_int eT.out.symm, (Below.refl _ _).alloc (Nat.le_refl _) _⟩
  have q0 : 0 ≤ left - ((name.size : Nat) : Int) := by omega
  go_enter Tryz.func77, Tryz.ntmps77
  go_wp2_with fail
  obtain ⟨w0, hw0⟩ : ∃ w0, w0 = w.alloc (.cells #[.string name, .int .i64 typ_kind, .string typ_name, typ_labelsV, typ_kidsV] 112) := ⟨_, rfl⟩
  rw [← hw0]
  have bA : Blk w0 w.heap.size 112 #[.string name, .int .i64 typ_kind, .string typ_name, typ_labelsV, typ_kidsV] := by rw [hw0]; exact Blk.new w _ _
  have hB0 : Below w.heap.size w w0 := by rw [hw0]; exact (Below.refl _ _).alloc (Nat.le_refl _) _
  clear hw0
  refine (ih_typ B [.int .i64 typ_kind, .string typ_name, typ_labelsV, typ_kidsV] _ (left - (name.size : Int)) (by omega) (by omega) (Nat.le_trans hB hB0.size) W__typ.out (Ty.close_ (R_typ_labels.out.below (hB0.mono hB)) (R_typ_kids.out.below (hB0.mono hB)))).mono ?_
  rintro e w1 ⟨rfl, hb1⟩
  have hB1 := hB0.trans (hb1.mono hB0.size)
  replace bA := bA.step hb1
  rw [← Z1.out]
  by_cases p1 : (z1 : Int) ≤ left - (name.size : Int)
  case neg =>
    rw [szLeft_no (by omega)]
    have eT := Lib.hid (szLeft_no (n := name.size + z1) (left := left) (by omega))
    go_wp2_with fail
    go_ret
    exact ⟨ret_int eT.out.symm, hB1⟩
  rw [szLeft_yes p1]
  have q1 : 0 ≤ left - (name.size : Int) - (z1 : Int) := by omega
  go_wp2_with fail
  have eT := Lib.hid (szLeft_yes (n := name.size + z1) (left := left) (by omega))
  go_ret
  exact ⟨ret_int (by rw [eT.out] <;> omega), hB1⟩
theorem szParam_all (t : Param) : SzC 77 (Param.pd t) := by obtain ⟨name, ⟨typ_kind, typ_name, typ_labels, typ_kids⟩⟩ := t; exact szParam_step (szType_all _)

set_option maxHeartbeats 1600000 in
theorem szParamS_step {ts : List Param} (ih : ∀ t ∈ ts, SzC 77 (Param.pd t)) : SzR 43 (.row 5 (ts.flatMap Param.pd)) := by
  intro B v w left h0 h1 hB hwf h
  rw [PD.wf, wfL_flatMap] at hwf
  obtain ⟨A, n, c, rfl, hnl, hm, hat⟩ := rep_row Param.pd_length (by decide) h
  unfold maxLen at hm
  rw [sz_row Param.pd_length (by decide), ← hnl]
  have HN := Lib.hid hnl
  have HW := Lib.hid hwf
  have HI := Lib.hid ih
  clear ih
  clear h hnl hwf
  obtain ⟨S, hS⟩ : ∃ S : Nat, S = PD.szL (ts.flatMap Param.pd) := ⟨_, rfl⟩
  rw [← hS]
  have HS := Lib.hid hS
  clear hS
  by_cases hl : (n : Int) ≤ left
  · go_enter Tryz.func43, Tryz.ntmps43
    go_wp2_with fail
    go_loopw [1, 5] (fun l i wr => ∃ (k Q : Nat), k ≤ n ∧ l = .int .i64 (left - n - Q) ∧ i = .int .i64 k ∧ (n : Int) + Q ≤ left ∧ Hid (Q = PD.szL ((ts.take k).flatMap Param.pd)) ∧ Below w.heap.size w wr) (fun _ i _ => n - (intOf i).toNat)
    case atStart => exact ⟨0, 0, Nat.zero_le _, by simp, rfl, by omega, Lib.hid (by simp [PD.szL]), Below.refl _ _⟩
    case round =>
      obtain ⟨k, Q, hk, rfl, rfl, hQ, HQ, hbr⟩ := hrel
      by_cases hlt : k < n
      · obtain ⟨g, off, rfl, hg, hcell⟩ := hat (by omega)
        obtain ⟨t, hx, hmem⟩ := at_lt HN.out hlt
        have hnx := szL_take_succ (f := Param.pd) hx
        have hle := szL_get_le (f := Param.pd) hx
        rw [← HQ.out] at hnx hle
        rw [← HS.out] at hle
        obtain ⟨name, ⟨typ_kind, typ_name, typ_labels, typ_kids⟩⟩ := t
        have c0 : wr.cell? ⟨g, off + k * 5, none⟩ = some (.string name) := cell_lit hbr (by omega) (hcell k 0 _ _ hx (by rw [Param.pd_mk]; rfl))
        have c1 : wr.cell? ⟨g, off + k * 5 + 1, none⟩ = some (.int .i64 typ_kind) := cell_lit hbr (by omega) (hcell k 1 _ _ hx (by rw [Param.pd_mk]; rfl))
        have c2 : wr.cell? ⟨g, off + k * 5 + 2, none⟩ = some (.string typ_name) := cell_lit hbr (by omega) (hcell k 2 _ _ hx (by rw [Param.pd_mk]; rfl))
        obtain ⟨typ_labelsV, c3, hr3⟩ : ∃ u, wr.cell? ⟨g, off + k * 5 + 3, none⟩ = some u ∧ Rep wr B (.row 1 (typ_labels.flatMap strC)) u := cell_rep hbr (by omega) hB (hcell k 3 _ _ hx (by rw [Param.pd_mk]; rfl))
        have HR3 := Lib.hid hr3
        clear hr3
        obtain ⟨typ_kidsV, c4, hr4⟩ : ∃ u, wr.cell? ⟨g, off + k * 5 + 4, none⟩ = some u ∧ Rep wr B (.row 4 (typ_kids.flatMap Ty.pd)) u := cell_rep hbr (by omega) hB (hcell k 4 _ _ hx (by rw [Param.pd_mk]; rfl))
        have HR4 := Lib.hid hr4
        clear hr4
        obtain ⟨z, hz⟩ : ∃ z : Nat, z = PD.szL (Param.pd ⟨name, ⟨typ_kind, typ_name, typ_labels, typ_kids⟩⟩) := ⟨_, rfl⟩
        have hc := HI.out _ hmem B [.string name, .int .i64 typ_kind, .string typ_name, typ_labelsV, typ_kidsV] wr (left - n - Q) (by omega) (by omega) (Nat.le_trans hB hbr.size) (HW.out _ hmem) (Param.close_ HR3.out HR4.out)
        rw [← hz] at hc hnx hle
        clear hx hcell hz
        have HC := Lib.hid hc
        have HX := Lib.hid hnx
        clear hc hnx
        go_wp2_with fail
        refine HC.out.mono ?_
        rintro e wq ⟨rfl, hbq⟩
        by_cases hzl : (z : Int) ≤ left - n - Q
        · rw [szLeft_yes hzl]
          have hp : 0 ≤ left - n - Q - (z : Int) := by omega
          go_wp2_with fail
          go_roundw
          case rel => exact ⟨k + 1, Q + z, by omega, by go_num, by go_num, by omega, Lib.hid HX.out.symm, hbr.trans (hbq.mono hbr.size)⟩
          case measure => simp [intOf]; omega
        · rw [szLeft_no (by omega)]
          have e2 := Lib.hid (szLeft_no (n := n + S) (show left < ((n + S : Nat) : Int) by omega))
          go_wp2_with fail
          go_ret
          exact ⟨ret_int e2.out.symm, hbr.trans (hbq.mono hbr.size)⟩
      · have hkn : k = n := by omega
        subst hkn
        have hqs : Q = S := by rw [HQ.out, HS.out, List.take_of_length_le (by have := HN.out; omega)]
        have e2 := Lib.hid (szLeft_yes (n := k + S) (left := left) (by omega))
        clear hqs
        have HQS : Hid (Q = S) := by have : Q = S := by rw [HQ.out, HS.out, List.take_of_length_le (by have := HN.out; omega)]
                                     exact Lib.hid this
        go_wp2_with fail
        go_ret
        exact ⟨ret_int (by rw [e2.out, HQS.out]; omega), hbr⟩
  · have e2 := Lib.hid (szLeft_no (n := n + S) (show left < ((n + S : Nat) : Int) by omega))
    go_enter Tryz.func43, Tryz.ntmps43
    go_wp2_with fail
    go_ret
    exact ⟨ret_int e2.out.symm, Below.refl _ _⟩
theorem szParamS_all (ts : List Param) : SzR 43 (.row 5 (ts.flatMap Param.pd)) := szParamS_step fun t _ => szParam_all t

set_option maxHeartbeats 1600000 in
theorem szFuncType_step {params : List Param} {result_kind : Int} {result_name : ByteArray} {result_labels : List ByteArray} {result_kids : List Ty} {async : Bool} (ih_params : SzR 43 (.row 5 (params.flatMap Param.pd))) (ih_result : SzC 44 (Ty.pd ⟨result_kind, result_name, result_labels, result_kids⟩)) : SzC 20 (FuncType.pd ⟨params, ⟨result_kind, result_name, result_labels, result_kids⟩, async⟩) := by
  intro B cs w left h0 h1 hB hwf h
  obtain ⟨paramsV, result_labelsV, result_kidsV, rfl, r_params, r_result_labels, r_result_kids⟩ := FuncType.open_ h
  rw [FuncType.pd_mk] at hwf
  simp only [PD.wfL, PD.wf, and_true, true_and] at hwf
  obtain ⟨wf_params, wf_result_kind, wf_result_name, wf_result_labels, wf_result_kids⟩ := hwf
  have W_params := Lib.hid wf_params
  have R_params := Lib.hid r_params
  clear wf_params r_params
  have I_result_kind := Lib.hid wf_result_kind
  clear wf_result_kind
  unfold maxLen at wf_result_name
  have W_result_labels := Lib.hid wf_result_labels
  have R_result_labels := Lib.hid r_result_labels
  clear wf_result_labels r_result_labels
  have W_result_kids := Lib.hid wf_result_kids
  have R_result_kids := Lib.hid r_result_kids
  clear wf_result_kids r_result_kids
  rw [show PD.szL (FuncType.pd ⟨params, ⟨result_kind, result_name, result_labels, result_kids⟩, async⟩) = (PD.row 5 (params.flatMap Param.pd)).sz + PD.szL (Ty.pd ⟨result_kind, result_name, result_labels, result_kids⟩) by simp only [FuncType.pd_mk, PD.szL, PD.sz, Ty.pd_mk] <;> omega]
  obtain ⟨z0, hz0⟩ : ∃ z : Nat, z = (PD.row 5 (params.flatMap Param.pd)).sz := ⟨_, rfl⟩
  rw [← hz0]
  have Z0 := Lib.hid hz0
  clear hz0
  obtain ⟨z1, hz1⟩ : ∃ z : Nat, z = PD.szL (Ty.pd ⟨result_kind, result_name, result_labels, result_kids⟩) := ⟨_, rfl⟩
  rw [← hz1]
  have Z1 := Lib.hid hz1
  clear hz1
  have wf__result : PD.wfL (Ty.pd ⟨result_kind, result_name, result_labels, result_kids⟩) := by rw [Ty.pd_mk]; simp only [PD.wfL, PD.wf, and_true, true_and]; exact ⟨I_result_kind.out, by unfold maxLen; exact wf_result_name, W_result_labels.out, W_result_kids.out⟩
  have W__result := Lib.hid wf__result
  clear wf__result
  go_enter Tryz.func20, Tryz.ntmps20
  go_wp2_with fail
  obtain ⟨w0, hw0⟩ : ∃ w0, w0 = w.alloc (.cells #[paramsV, .int .i64 result_kind, .string result_name, result_labelsV, result_kidsV, .bool async] 54) := ⟨_, rfl⟩
  rw [← hw0]
  have bA : Blk w0 w.heap.size 54 #[paramsV, .int .i64 result_kind, .string result_name, result_labelsV, result_kidsV, .bool async] := by rw [hw0]; exact Blk.new w _ _
  have hB0 : Below w.heap.size w w0 := by rw [hw0]; exact (Below.refl _ _).alloc (Nat.le_refl _) _
  clear hw0
  refine (ih_params B paramsV _ (left) (by omega) (by omega) (Nat.le_trans hB hB0.size) W_params.out (R_params.out.below (hB0.mono hB))).mono ?_
  rintro e w1 ⟨rfl, hb1⟩
  have hB1 := hB0.trans (hb1.mono hB0.size)
  replace bA := bA.step hb1
  rw [← Z0.out]
  by_cases p0 : (z0 : Int) ≤ left
  case neg =>
    rw [szLeft_no (by omega)]
    have eT := Lib.hid (szLeft_no (n := z0 + z1) (left := left) (by omega))
    go_wp2_with fail
    go_ret
    exact ⟨ret_int eT.out.symm, hB1⟩
  rw [szLeft_yes p0]
  have q0 : 0 ≤ left - (z0 : Int) := by omega
  have a1_1 : w1.cell? ⟨w.heap.size, 1, none⟩ = some (.int .i64 result_kind) := bA.cell 1
  have a1_2 : w1.cell? ⟨w.heap.size, 2, none⟩ = some (.string result_name) := bA.cell 2
  have a1_3 : w1.cell? ⟨w.heap.size, 3, none⟩ = some (result_labelsV) := bA.cell 3
  have a1_4 : w1.cell? ⟨w.heap.size, 4, none⟩ = some (result_kidsV) := bA.cell 4
  go_wp2_with fail
  refine (ih_result B [.int .i64 result_kind, .string result_name, result_labelsV, result_kidsV] _ (left - (z0 : Int)) (by omega) (by omega) (Nat.le_trans hB hB1.size) W__result.out (Ty.close_ (R_result_labels.out.below (hB1.mono hB)) (R_result_kids.out.below (hB1.mono hB)))).mono ?_
  rintro e w2 ⟨rfl, hb2⟩
  have hB2 := hB1.trans (hb2.mono hB1.size)
  replace bA := bA.step hb2
  rw [← Z1.out]
  by_cases p1 : (z1 : Int) ≤ left - (z0 : Int)
  case neg =>
    rw [szLeft_no (by omega)]
    have eT := Lib.hid (szLeft_no (n := z0 + z1) (left := left) (by omega))
    go_wp2_with fail
    go_ret
    exact ⟨ret_int eT.out.symm, hB2⟩
  rw [szLeft_yes p1]
  have q1 : 0 ≤ left - (z0 : Int) - (z1 : Int) := by omega
  go_wp2_with fail
  have eT := Lib.hid (szLeft_yes (n := z0 + z1) (left := left) (by omega))
  go_ret
  exact ⟨ret_int (by rw [eT.out] <;> omega), hB2⟩
theorem szFuncType_all (t : FuncType) : SzC 20 (FuncType.pd t) := by obtain ⟨params, ⟨result_kind, result_name, result_labels, result_kids⟩, async⟩ := t; exact szFuncType_step (szParamS_all params) (szType_all _)

set_option maxHeartbeats 1600000 in
theorem szFunc_step {name : ByteArray} {typ_params : List Param} {typ_result_kind : Int} {typ_result_name : ByteArray} {typ_result_labels : List ByteArray} {typ_result_kids : List Ty} {typ_async : Bool} (ih_typ : SzC 20 (FuncType.pd ⟨typ_params, ⟨typ_result_kind, typ_result_name, typ_result_labels, typ_result_kids⟩, typ_async⟩)) : SzC 53 (Fun.pd ⟨name, ⟨typ_params, ⟨typ_result_kind, typ_result_name, typ_result_labels, typ_result_kids⟩, typ_async⟩⟩) := by
  intro B cs w left h0 h1 hB hwf h
  obtain ⟨typ_paramsV, typ_result_labelsV, typ_result_kidsV, rfl, r_typ_params, r_typ_result_labels, r_typ_result_kids⟩ := Fun.open_ h
  rw [Fun.pd_mk] at hwf
  simp only [PD.wfL, PD.wf, and_true, true_and] at hwf
  obtain ⟨wf_name, wf_typ_params, wf_typ_result_kind, wf_typ_result_name, wf_typ_result_labels, wf_typ_result_kids⟩ := hwf
  unfold maxLen at wf_name
  have W_typ_params := Lib.hid wf_typ_params
  have R_typ_params := Lib.hid r_typ_params
  clear wf_typ_params r_typ_params
  have I_typ_result_kind := Lib.hid wf_typ_result_kind
  clear wf_typ_result_kind
  unfold maxLen at wf_typ_result_name
  have W_typ_result_labels := Lib.hid wf_typ_result_labels
  have R_typ_result_labels := Lib.hid r_typ_result_labels
  clear wf_typ_result_labels r_typ_result_labels
  have W_typ_result_kids := Lib.hid wf_typ_result_kids
  have R_typ_result_kids := Lib.hid r_typ_result_kids
  clear wf_typ_result_kids r_typ_result_kids
  rw [show PD.szL (Fun.pd ⟨name, ⟨typ_params, ⟨typ_result_kind, typ_result_name, typ_result_labels, typ_result_kids⟩, typ_async⟩⟩) = name.size + PD.szL (FuncType.pd ⟨typ_params, ⟨typ_result_kind, typ_result_name, typ_result_labels, typ_result_kids⟩, typ_async⟩) by simp only [Fun.pd_mk, PD.szL, PD.sz, FuncType.pd_mk] <;> omega]
  obtain ⟨z1, hz1⟩ : ∃ z : Nat, z = PD.szL (FuncType.pd ⟨typ_params, ⟨typ_result_kind, typ_result_name, typ_result_labels, typ_result_kids⟩, typ_async⟩) := ⟨_, rfl⟩
  rw [← hz1]
  have Z1 := Lib.hid hz1
  clear hz1
  have wf__typ : PD.wfL (FuncType.pd ⟨typ_params, ⟨typ_result_kind, typ_result_name, typ_result_labels, typ_result_kids⟩, typ_async⟩) := by rw [FuncType.pd_mk]; simp only [PD.wfL, PD.wf, and_true, true_and]; exact ⟨W_typ_params.out, I_typ_result_kind.out, by unfold maxLen; exact wf_typ_result_name, W_typ_result_labels.out, W_typ_result_kids.out⟩
  have W__typ := Lib.hid wf__typ
  clear wf__typ
  by_cases p0 : ((name.size : Nat) : Int) ≤ left
  case neg =>
    have eT := Lib.hid (szLeft_no (n := name.size + z1) (left := left) (by omega))
    go_enter Tryz.func53, Tryz.ntmps53
    go_wp2_with fail
    go_ret
    exact ⟨ret_int eT.out.symm, (Below.refl _ _).alloc (Nat.le_refl _) _⟩
  have q0 : 0 ≤ left - ((name.size : Nat) : Int) := by omega
  go_enter Tryz.func53, Tryz.ntmps53
  go_wp2_with fail
  obtain ⟨w0, hw0⟩ : ∃ w0, w0 = w.alloc (.cells #[.string name, typ_paramsV, .int .i64 typ_result_kind, .string typ_result_name, typ_result_labelsV, typ_result_kidsV, .bool typ_async] 92) := ⟨_, rfl⟩
  rw [← hw0]
  have bA : Blk w0 w.heap.size 92 #[.string name, typ_paramsV, .int .i64 typ_result_kind, .string typ_result_name, typ_result_labelsV, typ_result_kidsV, .bool typ_async] := by rw [hw0]; exact Blk.new w _ _
  have hB0 : Below w.heap.size w w0 := by rw [hw0]; exact (Below.refl _ _).alloc (Nat.le_refl _) _
  clear hw0
  refine (ih_typ B [typ_paramsV, .int .i64 typ_result_kind, .string typ_result_name, typ_result_labelsV, typ_result_kidsV, .bool typ_async] _ (left - (name.size : Int)) (by omega) (by omega) (Nat.le_trans hB hB0.size) W__typ.out (FuncType.close_ (R_typ_params.out.below (hB0.mono hB)) (R_typ_result_labels.out.below (hB0.mono hB)) (R_typ_result_kids.out.below (hB0.mono hB)))).mono ?_
  rintro e w1 ⟨rfl, hb1⟩
  have hB1 := hB0.trans (hb1.mono hB0.size)
  replace bA := bA.step hb1
  rw [← Z1.out]
  by_cases p1 : (z1 : Int) ≤ left - (name.size : Int)
  case neg =>
    rw [szLeft_no (by omega)]
    have eT := Lib.hid (szLeft_no (n := name.size + z1) (left := left) (by omega))
    go_wp2_with fail
    go_ret
    exact ⟨ret_int eT.out.symm, hB1⟩
  rw [szLeft_yes p1]
  have q1 : 0 ≤ left - (name.size : Int) - (z1 : Int) := by omega
  go_wp2_with fail
  have eT := Lib.hid (szLeft_yes (n := name.size + z1) (left := left) (by omega))
  go_ret
  exact ⟨ret_int (by rw [eT.out] <;> omega), hB1⟩
theorem szFunc_all (t : Fun) : SzC 53 (Fun.pd t) := by obtain ⟨name, ⟨typ_params, ⟨typ_result_kind, typ_result_name, typ_result_labels, typ_result_kids⟩, typ_async⟩⟩ := t; exact szFunc_step (szFuncType_all _)

set_option maxHeartbeats 1600000 in
theorem szFuncS_step {ts : List Fun} (ih : ∀ t ∈ ts, SzC 53 (Fun.pd t)) : SzR 26 (.row 7 (ts.flatMap Fun.pd)) := by
  intro B v w left h0 h1 hB hwf h
  rw [PD.wf, wfL_flatMap] at hwf
  obtain ⟨A, n, c, rfl, hnl, hm, hat⟩ := rep_row Fun.pd_length (by decide) h
  unfold maxLen at hm
  rw [sz_row Fun.pd_length (by decide), ← hnl]
  have HN := Lib.hid hnl
  have HW := Lib.hid hwf
  have HI := Lib.hid ih
  clear ih
  clear h hnl hwf
  obtain ⟨S, hS⟩ : ∃ S : Nat, S = PD.szL (ts.flatMap Fun.pd) := ⟨_, rfl⟩
  rw [← hS]
  have HS := Lib.hid hS
  clear hS
  by_cases hl : (n : Int) ≤ left
  · go_enter Tryz.func26, Tryz.ntmps26
    go_wp2_with fail
    go_loopw [1, 5] (fun l i wr => ∃ (k Q : Nat), k ≤ n ∧ l = .int .i64 (left - n - Q) ∧ i = .int .i64 k ∧ (n : Int) + Q ≤ left ∧ Hid (Q = PD.szL ((ts.take k).flatMap Fun.pd)) ∧ Below w.heap.size w wr) (fun _ i _ => n - (intOf i).toNat)
    case atStart => exact ⟨0, 0, Nat.zero_le _, by simp, rfl, by omega, Lib.hid (by simp [PD.szL]), Below.refl _ _⟩
    case round =>
      obtain ⟨k, Q, hk, rfl, rfl, hQ, HQ, hbr⟩ := hrel
      by_cases hlt : k < n
      · obtain ⟨g, off, rfl, hg, hcell⟩ := hat (by omega)
        obtain ⟨t, hx, hmem⟩ := at_lt HN.out hlt
        have hnx := szL_take_succ (f := Fun.pd) hx
        have hle := szL_get_le (f := Fun.pd) hx
        rw [← HQ.out] at hnx hle
        rw [← HS.out] at hle
        obtain ⟨name, ⟨typ_params, ⟨typ_result_kind, typ_result_name, typ_result_labels, typ_result_kids⟩, typ_async⟩⟩ := t
        have c0 : wr.cell? ⟨g, off + k * 7, none⟩ = some (.string name) := cell_lit hbr (by omega) (hcell k 0 _ _ hx (by rw [Fun.pd_mk]; rfl))
        obtain ⟨typ_paramsV, c1, hr1⟩ : ∃ u, wr.cell? ⟨g, off + k * 7 + 1, none⟩ = some u ∧ Rep wr B (.row 5 (typ_params.flatMap Param.pd)) u := cell_rep hbr (by omega) hB (hcell k 1 _ _ hx (by rw [Fun.pd_mk]; rfl))
        have HR1 := Lib.hid hr1
        clear hr1
        have c2 : wr.cell? ⟨g, off + k * 7 + 2, none⟩ = some (.int .i64 typ_result_kind) := cell_lit hbr (by omega) (hcell k 2 _ _ hx (by rw [Fun.pd_mk]; rfl))
        have c3 : wr.cell? ⟨g, off + k * 7 + 3, none⟩ = some (.string typ_result_name) := cell_lit hbr (by omega) (hcell k 3 _ _ hx (by rw [Fun.pd_mk]; rfl))
        obtain ⟨typ_result_labelsV, c4, hr4⟩ : ∃ u, wr.cell? ⟨g, off + k * 7 + 4, none⟩ = some u ∧ Rep wr B (.row 1 (typ_result_labels.flatMap strC)) u := cell_rep hbr (by omega) hB (hcell k 4 _ _ hx (by rw [Fun.pd_mk]; rfl))
        have HR4 := Lib.hid hr4
        clear hr4
        obtain ⟨typ_result_kidsV, c5, hr5⟩ : ∃ u, wr.cell? ⟨g, off + k * 7 + 5, none⟩ = some u ∧ Rep wr B (.row 4 (typ_result_kids.flatMap Ty.pd)) u := cell_rep hbr (by omega) hB (hcell k 5 _ _ hx (by rw [Fun.pd_mk]; rfl))
        have HR5 := Lib.hid hr5
        clear hr5
        have c6 : wr.cell? ⟨g, off + k * 7 + 6, none⟩ = some (.bool typ_async) := cell_lit hbr (by omega) (hcell k 6 _ _ hx (by rw [Fun.pd_mk]; rfl))
        obtain ⟨z, hz⟩ : ∃ z : Nat, z = PD.szL (Fun.pd ⟨name, ⟨typ_params, ⟨typ_result_kind, typ_result_name, typ_result_labels, typ_result_kids⟩, typ_async⟩⟩) := ⟨_, rfl⟩
        have hc := HI.out _ hmem B [.string name, typ_paramsV, .int .i64 typ_result_kind, .string typ_result_name, typ_result_labelsV, typ_result_kidsV, .bool typ_async] wr (left - n - Q) (by omega) (by omega) (Nat.le_trans hB hbr.size) (HW.out _ hmem) (Fun.close_ HR1.out HR4.out HR5.out)
        rw [← hz] at hc hnx hle
        clear hx hcell hz
        have HC := Lib.hid hc
        have HX := Lib.hid hnx
        clear hc hnx
        go_wp2_with fail
        refine HC.out.mono ?_
        rintro e wq ⟨rfl, hbq⟩
        by_cases hzl : (z : Int) ≤ left - n - Q
        · rw [szLeft_yes hzl]
          have hp : 0 ≤ left - n - Q - (z : Int) := by omega
          go_wp2_with fail
          go_roundw
          case rel => exact ⟨k + 1, Q + z, by omega, by go_num, by go_num, by omega, Lib.hid HX.out.symm, hbr.trans (hbq.mono hbr.size)⟩
          case measure => simp [intOf]; omega
        · rw [szLeft_no (by omega)]
          have e2 := Lib.hid (szLeft_no (n := n + S) (show left < ((n + S : Nat) : Int) by omega))
          go_wp2_with fail
          go_ret
          exact ⟨ret_int e2.out.symm, hbr.trans (hbq.mono hbr.size)⟩
      · have hkn : k = n := by omega
        subst hkn
        have hqs : Q = S := by rw [HQ.out, HS.out, List.take_of_length_le (by have := HN.out; omega)]
        have e2 := Lib.hid (szLeft_yes (n := k + S) (left := left) (by omega))
        clear hqs
        have HQS : Hid (Q = S) := by have : Q = S := by rw [HQ.out, HS.out, List.take_of_length_le (by have := HN.out; omega)]
                                     exact Lib.hid this
        go_wp2_with fail
        go_ret
        exact ⟨ret_int (by rw [e2.out, HQS.out]; omega), hbr⟩
  · have e2 := Lib.hid (szLeft_no (n := n + S) (show left < ((n + S : Nat) : Int) by omega))
    go_enter Tryz.func26, Tryz.ntmps26
    go_wp2_with fail
    go_ret
    exact ⟨ret_int e2.out.symm, Below.refl _ _⟩
theorem szFuncS_all (ts : List Fun) : SzR 26 (.row 7 (ts.flatMap Fun.pd)) := szFuncS_step fun t _ => szFunc_all t

set_option maxHeartbeats 1600000 in
theorem szFace_step {package : ByteArray} {name : ByteArray} {version : ByteArray} {resources : List ByteArray} {funcs : List Fun} (ih_resources : SzR 25 (.row 1 (resources.flatMap strC))) (ih_funcs : SzR 26 (.row 7 (funcs.flatMap Fun.pd))) : SzC 7 (Face.pd ⟨package, name, version, resources, funcs⟩) := by
  intro B cs w left h0 h1 hB hwf h
  obtain ⟨resourcesV, funcsV, rfl, r_resources, r_funcs⟩ := Face.open_ h
  rw [Face.pd_mk] at hwf
  simp only [PD.wfL, PD.wf, and_true, true_and] at hwf
  obtain ⟨wf_package, wf_name, wf_version, wf_resources, wf_funcs⟩ := hwf
  unfold maxLen at wf_package
  unfold maxLen at wf_name
  unfold maxLen at wf_version
  have W_resources := Lib.hid wf_resources
  have R_resources := Lib.hid r_resources
  clear wf_resources r_resources
  have W_funcs := Lib.hid wf_funcs
  have R_funcs := Lib.hid r_funcs
  clear wf_funcs r_funcs
  rw [show PD.szL (Face.pd ⟨package, name, version, resources, funcs⟩) = package.size + name.size + version.size + (PD.row 1 (resources.flatMap strC)).sz + (PD.row 7 (funcs.flatMap Fun.pd)).sz by simp only [Face.pd_mk, PD.szL, PD.sz] <;> omega]
  obtain ⟨z3, hz3⟩ : ∃ z : Nat, z = (PD.row 1 (resources.flatMap strC)).sz := ⟨_, rfl⟩
  rw [← hz3]
  have Z3 := Lib.hid hz3
  clear hz3
  obtain ⟨z4, hz4⟩ : ∃ z : Nat, z = (PD.row 7 (funcs.flatMap Fun.pd)).sz := ⟨_, rfl⟩
  rw [← hz4]
  have Z4 := Lib.hid hz4
  clear hz4
  by_cases p0 : ((package.size : Nat) : Int) ≤ left
  case neg =>
    have eT := Lib.hid (szLeft_no (n := package.size + name.size + version.size + z3 + z4) (left := left) (by omega))
    go_enter Tryz.func7, Tryz.ntmps7
    go_wp2_with fail
    go_ret
    exact ⟨ret_int eT.out.symm, (Below.refl _ _).alloc (Nat.le_refl _) _⟩
  have q0 : 0 ≤ left - ((package.size : Nat) : Int) := by omega
  by_cases p1 : ((name.size : Nat) : Int) ≤ left - (package.size : Int)
  case neg =>
    have eT := Lib.hid (szLeft_no (n := package.size + name.size + version.size + z3 + z4) (left := left) (by omega))
    go_enter Tryz.func7, Tryz.ntmps7
    go_wp2_with fail
    go_ret
    exact ⟨ret_int eT.out.symm, (Below.refl _ _).alloc (Nat.le_refl _) _⟩
  have q1 : 0 ≤ left - (package.size : Int) - ((name.size : Nat) : Int) := by omega
  by_cases p2 : ((version.size : Nat) : Int) ≤ left - (package.size : Int) - (name.size : Int)
  case neg =>
    have eT := Lib.hid (szLeft_no (n := package.size + name.size + version.size + z3 + z4) (left := left) (by omega))
    go_enter Tryz.func7, Tryz.ntmps7
    go_wp2_with fail
    go_ret
    exact ⟨ret_int eT.out.symm, (Below.refl _ _).alloc (Nat.le_refl _) _⟩
  have q2 : 0 ≤ left - (package.size : Int) - (name.size : Int) - ((version.size : Nat) : Int) := by omega
  go_enter Tryz.func7, Tryz.ntmps7
  go_wp2_with fail
  obtain ⟨w0, hw0⟩ : ∃ w0, w0 = w.alloc (.cells #[.string package, .string name, .string version, resourcesV, funcsV] 25) := ⟨_, rfl⟩
  rw [← hw0]
  have bA : Blk w0 w.heap.size 25 #[.string package, .string name, .string version, resourcesV, funcsV] := by rw [hw0]; exact Blk.new w _ _
  have hB0 : Below w.heap.size w w0 := by rw [hw0]; exact (Below.refl _ _).alloc (Nat.le_refl _) _
  clear hw0
  refine (ih_resources B resourcesV _ (left - (package.size : Int) - (name.size : Int) - (version.size : Int)) (by omega) (by omega) (Nat.le_trans hB hB0.size) W_resources.out (R_resources.out.below (hB0.mono hB))).mono ?_
  rintro e w1 ⟨rfl, hb1⟩
  have hB1 := hB0.trans (hb1.mono hB0.size)
  replace bA := bA.step hb1
  rw [← Z3.out]
  by_cases p3 : (z3 : Int) ≤ left - (package.size : Int) - (name.size : Int) - (version.size : Int)
  case neg =>
    rw [szLeft_no (by omega)]
    have eT := Lib.hid (szLeft_no (n := package.size + name.size + version.size + z3 + z4) (left := left) (by omega))
    go_wp2_with fail
    go_ret
    exact ⟨ret_int eT.out.symm, hB1⟩
  rw [szLeft_yes p3]
  have q3 : 0 ≤ left - (package.size : Int) - (name.size : Int) - (version.size : Int) - (z3 : Int) := by omega
  have a1_4 : w1.cell? ⟨w.heap.size, 4, none⟩ = some (funcsV) := bA.cell 4
  go_wp2_with fail
  refine (ih_funcs B funcsV _ (left - (package.size : Int) - (name.size : Int) - (version.size : Int) - (z3 : Int)) (by omega) (by omega) (Nat.le_trans hB hB1.size) W_funcs.out (R_funcs.out.below (hB1.mono hB))).mono ?_
  rintro e w2 ⟨rfl, hb2⟩
  have hB2 := hB1.trans (hb2.mono hB1.size)
  replace bA := bA.step hb2
  rw [← Z4.out]
  by_cases p4 : (z4 : Int) ≤ left - (package.size : Int) - (name.size : Int) - (version.size : Int) - (z3 : Int)
  case neg =>
    rw [szLeft_no (by omega)]
    have eT := Lib.hid (szLeft_no (n := package.size + name.size + version.size + z3 + z4) (left := left) (by omega))
    go_wp2_with fail
    go_ret
    exact ⟨ret_int eT.out.symm, hB2⟩
  rw [szLeft_yes p4]
  have q4 : 0 ≤ left - (package.size : Int) - (name.size : Int) - (version.size : Int) - (z3 : Int) - (z4 : Int) := by omega
  go_wp2_with fail
  have eT := Lib.hid (szLeft_yes (n := package.size + name.size + version.size + z3 + z4) (left := left) (by omega))
  go_ret
  exact ⟨ret_int (by rw [eT.out] <;> omega), hB2⟩
theorem szFace_all (t : Face) : SzC 7 (Face.pd t) := by obtain ⟨package, name, version, resources, funcs⟩ := t; exact szFace_step szStringS_step (szFuncS_all funcs)

set_option maxHeartbeats 1600000 in
theorem szFaceS_step {ts : List Face} (ih : ∀ t ∈ ts, SzC 7 (Face.pd t)) : SzR 36 (.row 5 (ts.flatMap Face.pd)) := by
  intro B v w left h0 h1 hB hwf h
  rw [PD.wf, wfL_flatMap] at hwf
  obtain ⟨A, n, c, rfl, hnl, hm, hat⟩ := rep_row Face.pd_length (by decide) h
  unfold maxLen at hm
  rw [sz_row Face.pd_length (by decide), ← hnl]
  have HN := Lib.hid hnl
  have HW := Lib.hid hwf
  have HI := Lib.hid ih
  clear ih
  clear h hnl hwf
  obtain ⟨S, hS⟩ : ∃ S : Nat, S = PD.szL (ts.flatMap Face.pd) := ⟨_, rfl⟩
  rw [← hS]
  have HS := Lib.hid hS
  clear hS
  by_cases hl : (n : Int) ≤ left
  · go_enter Tryz.func36, Tryz.ntmps36
    go_wp2_with fail
    go_loopw [1, 5] (fun l i wr => ∃ (k Q : Nat), k ≤ n ∧ l = .int .i64 (left - n - Q) ∧ i = .int .i64 k ∧ (n : Int) + Q ≤ left ∧ Hid (Q = PD.szL ((ts.take k).flatMap Face.pd)) ∧ Below w.heap.size w wr) (fun _ i _ => n - (intOf i).toNat)
    case atStart => exact ⟨0, 0, Nat.zero_le _, by simp, rfl, by omega, Lib.hid (by simp [PD.szL]), Below.refl _ _⟩
    case round =>
      obtain ⟨k, Q, hk, rfl, rfl, hQ, HQ, hbr⟩ := hrel
      by_cases hlt : k < n
      · obtain ⟨g, off, rfl, hg, hcell⟩ := hat (by omega)
        obtain ⟨t, hx, hmem⟩ := at_lt HN.out hlt
        have hnx := szL_take_succ (f := Face.pd) hx
        have hle := szL_get_le (f := Face.pd) hx
        rw [← HQ.out] at hnx hle
        rw [← HS.out] at hle
        obtain ⟨package, name, version, resources, funcs⟩ := t
        have c0 : wr.cell? ⟨g, off + k * 5, none⟩ = some (.string package) := cell_lit hbr (by omega) (hcell k 0 _ _ hx (by rw [Face.pd_mk]; rfl))
        have c1 : wr.cell? ⟨g, off + k * 5 + 1, none⟩ = some (.string name) := cell_lit hbr (by omega) (hcell k 1 _ _ hx (by rw [Face.pd_mk]; rfl))
        have c2 : wr.cell? ⟨g, off + k * 5 + 2, none⟩ = some (.string version) := cell_lit hbr (by omega) (hcell k 2 _ _ hx (by rw [Face.pd_mk]; rfl))
        obtain ⟨resourcesV, c3, hr3⟩ : ∃ u, wr.cell? ⟨g, off + k * 5 + 3, none⟩ = some u ∧ Rep wr B (.row 1 (resources.flatMap strC)) u := cell_rep hbr (by omega) hB (hcell k 3 _ _ hx (by rw [Face.pd_mk]; rfl))
        have HR3 := Lib.hid hr3
        clear hr3
        obtain ⟨funcsV, c4, hr4⟩ : ∃ u, wr.cell? ⟨g, off + k * 5 + 4, none⟩ = some u ∧ Rep wr B (.row 7 (funcs.flatMap Fun.pd)) u := cell_rep hbr (by omega) hB (hcell k 4 _ _ hx (by rw [Face.pd_mk]; rfl))
        have HR4 := Lib.hid hr4
        clear hr4
        obtain ⟨z, hz⟩ : ∃ z : Nat, z = PD.szL (Face.pd ⟨package, name, version, resources, funcs⟩) := ⟨_, rfl⟩
        have hc := HI.out _ hmem B [.string package, .string name, .string version, resourcesV, funcsV] wr (left - n - Q) (by omega) (by omega) (Nat.le_trans hB hbr.size) (HW.out _ hmem) (Face.close_ HR3.out HR4.out)
        rw [← hz] at hc hnx hle
        clear hx hcell hz
        have HC := Lib.hid hc
        have HX := Lib.hid hnx
        clear hc hnx
        go_wp2_with fail
        refine HC.out.mono ?_
        rintro e wq ⟨rfl, hbq⟩
        by_cases hzl : (z : Int) ≤ left - n - Q
        · rw [szLeft_yes hzl]
          have hp : 0 ≤ left - n - Q - (z : Int) := by omega
          go_wp2_with fail
          go_roundw
          case rel => exact ⟨k + 1, Q + z, by omega, by go_num, by go_num, by omega, Lib.hid HX.out.symm, hbr.trans (hbq.mono hbr.size)⟩
          case measure => simp [intOf]; omega
        · rw [szLeft_no (by omega)]
          have e2 := Lib.hid (szLeft_no (n := n + S) (show left < ((n + S : Nat) : Int) by omega))
          go_wp2_with fail
          go_ret
          exact ⟨ret_int e2.out.symm, hbr.trans (hbq.mono hbr.size)⟩
      · have hkn : k = n := by omega
        subst hkn
        have hqs : Q = S := by rw [HQ.out, HS.out, List.take_of_length_le (by have := HN.out; omega)]
        have e2 := Lib.hid (szLeft_yes (n := k + S) (left := left) (by omega))
        clear hqs
        have HQS : Hid (Q = S) := by have : Q = S := by rw [HQ.out, HS.out, List.take_of_length_le (by have := HN.out; omega)]
                                     exact Lib.hid this
        go_wp2_with fail
        go_ret
        exact ⟨ret_int (by rw [e2.out, HQS.out]; omega), hbr⟩
  · have e2 := Lib.hid (szLeft_no (n := n + S) (show left < ((n + S : Nat) : Int) by omega))
    go_enter Tryz.func36, Tryz.ntmps36
    go_wp2_with fail
    go_ret
    exact ⟨ret_int e2.out.symm, Below.refl _ _⟩
theorem szFaceS_all (ts : List Face) : SzR 36 (.row 5 (ts.flatMap Face.pd)) := szFaceS_step fun t _ => szFace_all t

set_option maxHeartbeats 1600000 in
theorem szWorld_step {package : ByteArray} {name : ByteArray} {version : ByteArray} {imports : List Face} {exports : List Face} (ih_imports : SzR 36 (.row 5 (imports.flatMap Face.pd))) (ih_exports : SzR 36 (.row 5 (exports.flatMap Face.pd))) : SzC 15 (Wld.pd ⟨package, name, version, imports, exports⟩) := by
  intro B cs w left h0 h1 hB hwf h
  obtain ⟨importsV, exportsV, rfl, r_imports, r_exports⟩ := Wld.open_ h
  rw [Wld.pd_mk] at hwf
  simp only [PD.wfL, PD.wf, and_true, true_and] at hwf
  obtain ⟨wf_package, wf_name, wf_version, wf_imports, wf_exports⟩ := hwf
  unfold maxLen at wf_package
  unfold maxLen at wf_name
  unfold maxLen at wf_version
  have W_imports := Lib.hid wf_imports
  have R_imports := Lib.hid r_imports
  clear wf_imports r_imports
  have W_exports := Lib.hid wf_exports
  have R_exports := Lib.hid r_exports
  clear wf_exports r_exports
  rw [show PD.szL (Wld.pd ⟨package, name, version, imports, exports⟩) = package.size + name.size + version.size + (PD.row 5 (imports.flatMap Face.pd)).sz + (PD.row 5 (exports.flatMap Face.pd)).sz by simp only [Wld.pd_mk, PD.szL, PD.sz] <;> omega]
  obtain ⟨z3, hz3⟩ : ∃ z : Nat, z = (PD.row 5 (imports.flatMap Face.pd)).sz := ⟨_, rfl⟩
  rw [← hz3]
  have Z3 := Lib.hid hz3
  clear hz3
  obtain ⟨z4, hz4⟩ : ∃ z : Nat, z = (PD.row 5 (exports.flatMap Face.pd)).sz := ⟨_, rfl⟩
  rw [← hz4]
  have Z4 := Lib.hid hz4
  clear hz4
  by_cases p0 : ((package.size : Nat) : Int) ≤ left
  case neg =>
    have eT := Lib.hid (szLeft_no (n := package.size + name.size + version.size + z3 + z4) (left := left) (by omega))
    go_enter Tryz.func15, Tryz.ntmps15
    go_wp2_with fail
    go_ret
    exact ⟨ret_int eT.out.symm, (Below.refl _ _).alloc (Nat.le_refl _) _⟩
  have q0 : 0 ≤ left - ((package.size : Nat) : Int) := by omega
  by_cases p1 : ((name.size : Nat) : Int) ≤ left - (package.size : Int)
  case neg =>
    have eT := Lib.hid (szLeft_no (n := package.size + name.size + version.size + z3 + z4) (left := left) (by omega))
    go_enter Tryz.func15, Tryz.ntmps15
    go_wp2_with fail
    go_ret
    exact ⟨ret_int eT.out.symm, (Below.refl _ _).alloc (Nat.le_refl _) _⟩
  have q1 : 0 ≤ left - (package.size : Int) - ((name.size : Nat) : Int) := by omega
  by_cases p2 : ((version.size : Nat) : Int) ≤ left - (package.size : Int) - (name.size : Int)
  case neg =>
    have eT := Lib.hid (szLeft_no (n := package.size + name.size + version.size + z3 + z4) (left := left) (by omega))
    go_enter Tryz.func15, Tryz.ntmps15
    go_wp2_with fail
    go_ret
    exact ⟨ret_int eT.out.symm, (Below.refl _ _).alloc (Nat.le_refl _) _⟩
  have q2 : 0 ≤ left - (package.size : Int) - (name.size : Int) - ((version.size : Nat) : Int) := by omega
  go_enter Tryz.func15, Tryz.ntmps15
  go_wp2_with fail
  obtain ⟨w0, hw0⟩ : ∃ w0, w0 = w.alloc (.cells #[.string package, .string name, .string version, importsV, exportsV] 40) := ⟨_, rfl⟩
  rw [← hw0]
  have bA : Blk w0 w.heap.size 40 #[.string package, .string name, .string version, importsV, exportsV] := by rw [hw0]; exact Blk.new w _ _
  have hB0 : Below w.heap.size w w0 := by rw [hw0]; exact (Below.refl _ _).alloc (Nat.le_refl _) _
  clear hw0
  refine (ih_imports B importsV _ (left - (package.size : Int) - (name.size : Int) - (version.size : Int)) (by omega) (by omega) (Nat.le_trans hB hB0.size) W_imports.out (R_imports.out.below (hB0.mono hB))).mono ?_
  rintro e w1 ⟨rfl, hb1⟩
  have hB1 := hB0.trans (hb1.mono hB0.size)
  replace bA := bA.step hb1
  rw [← Z3.out]
  by_cases p3 : (z3 : Int) ≤ left - (package.size : Int) - (name.size : Int) - (version.size : Int)
  case neg =>
    rw [szLeft_no (by omega)]
    have eT := Lib.hid (szLeft_no (n := package.size + name.size + version.size + z3 + z4) (left := left) (by omega))
    go_wp2_with fail
    go_ret
    exact ⟨ret_int eT.out.symm, hB1⟩
  rw [szLeft_yes p3]
  have q3 : 0 ≤ left - (package.size : Int) - (name.size : Int) - (version.size : Int) - (z3 : Int) := by omega
  have a1_4 : w1.cell? ⟨w.heap.size, 4, none⟩ = some (exportsV) := bA.cell 4
  go_wp2_with fail
  refine (ih_exports B exportsV _ (left - (package.size : Int) - (name.size : Int) - (version.size : Int) - (z3 : Int)) (by omega) (by omega) (Nat.le_trans hB hB1.size) W_exports.out (R_exports.out.below (hB1.mono hB))).mono ?_
  rintro e w2 ⟨rfl, hb2⟩
  have hB2 := hB1.trans (hb2.mono hB1.size)
  replace bA := bA.step hb2
  rw [← Z4.out]
  by_cases p4 : (z4 : Int) ≤ left - (package.size : Int) - (name.size : Int) - (version.size : Int) - (z3 : Int)
  case neg =>
    rw [szLeft_no (by omega)]
    have eT := Lib.hid (szLeft_no (n := package.size + name.size + version.size + z3 + z4) (left := left) (by omega))
    go_wp2_with fail
    go_ret
    exact ⟨ret_int eT.out.symm, hB2⟩
  rw [szLeft_yes p4]
  have q4 : 0 ≤ left - (package.size : Int) - (name.size : Int) - (version.size : Int) - (z3 : Int) - (z4 : Int) := by omega
  go_wp2_with fail
  have eT := Lib.hid (szLeft_yes (n := package.size + name.size + version.size + z3 + z4) (left := left) (by omega))
  go_ret
  exact ⟨ret_int (by rw [eT.out] <;> omega), hB2⟩
theorem szWorld_all (t : Wld) : SzC 15 (Wld.pd t) := by obtain ⟨package, name, version, imports, exports⟩ := t; exact szWorld_step (szFaceS_all imports) (szFaceS_all exports)


















end Go.Proofs.YtbafphecjijdmaaGreatDoor
