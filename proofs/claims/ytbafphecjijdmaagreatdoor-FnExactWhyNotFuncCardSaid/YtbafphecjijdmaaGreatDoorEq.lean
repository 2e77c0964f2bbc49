/-
  The laws' own helpers 'eq..' over the program's types (by program: tygen2.py, tyfam.py).
-/
import Derived.Test.YtbafphecjijdmaaGreatDoorFam
import Derived.Test.YtbafphecjijdmaaGreatDoorTy
namespace Go.Proofs.YtbafphecjijdmaaGreatDoor
open Go.RowKit
set_option linter.unusedVariables false
set_option linter.unusedSimpArgs false
set_option linter.unnecessarySimpa false
set_option maxRecDepth 100000


set_option maxHeartbeats 1600000 in
theorem eqStringS_step {ts : List ByteArray} : EqR 33 (.row 1 (ts.flatMap strC)) := by
  intro B v u w hB h h'
  obtain ⟨A, n, c, rfl, hnl, hm, hat⟩ := rep_row strC_length (by decide) h
  obtain ⟨A', n', c', rfl, hnl', _, hat'⟩ := rep_row strC_length (by decide) h'
  have hnn : n' = n := by omega
  subst hnn
  unfold maxLen at hm
  have HN := Lib.hid hnl
  clear h h' hnl hnl'
  go_enter Tryz.func33, Tryz.ntmps33
  go_wp2_with fail
  go_loopw [5] (fun i wr => ∃ k : Nat, k ≤ n' ∧ i = .int .i64 k ∧ Below w.heap.size w wr) (fun i _ => n' - (intOf i).toNat)
  case atStart => exact ⟨0, Nat.zero_le _, rfl, Below.refl _ _⟩
  case round =>
    obtain ⟨k, hk, rfl, hbr⟩ := hrel
    by_cases hlt : k < n'
    · obtain ⟨g, off, rfl, hg, hcell⟩ := hat (by omega)
      obtain ⟨g', off', rfl, hg', hcell'⟩ := hat' (by omega)
      obtain ⟨t, hx, hmem⟩ := at_lt HN.out hlt
      have c0 : wr.cell? ⟨g, off + k, none⟩ = some (.string t) := cell_lit hbr (by omega) (by have := hcell k 0 _ _ hx rfl; simpa using this)
      have d0' : wr.cell? ⟨g', off' + k, none⟩ = some (.string t) := cell_lit hbr (by omega) (by have := hcell' k 0 _ _ hx rfl; simpa using this)
      have hlt' : (k : Int) < (n' : Int) := by omega
      have hgw : g < wr.heap.size := by have := hbr.size; omega
      have hgw' : g' < wr.heap.size := by have := hbr.size; omega
      clear hx hcell hcell' hmem
      go_wp2_with fail
      go_quiet (fail)
      have hbn := below_drewN hbr
      clear hbr c0 d0'
      go_wp2_with fail
      go_roundw
      case rel => exact ⟨k + 1, by omega, by go_num, hbn _⟩
      case measure => simp [intOf]; omega
    · have hkn : k = n' := by omega
      subst hkn
      go_wp2_with fail
      go_ret
      exact ⟨rfl, hbr⟩
theorem eqStringS_all (ts : List ByteArray) : EqR 33 (.row 1 (ts.flatMap strC)) := eqStringS_step




set_option maxHeartbeats 1600000 in
theorem eqTypeS_step {ts : List Ty} (ih : ∀ t ∈ ts, EqC 52 (Ty.pd t)) : EqR 88 (.row 4 (ts.flatMap Ty.pd)) := by
  intro B v u w hB h h'
  obtain ⟨A, n, c, rfl, hnl, hm, hat⟩ := rep_row Ty.pd_length (by decide) h
  obtain ⟨A', n', c', rfl, hnl', _, hat'⟩ := rep_row Ty.pd_length (by decide) h'
  have hnn : n' = n := by omega
  subst hnn
  unfold maxLen at hm
  have HN := Lib.hid hnl
  have HI := Lib.hid ih
  clear ih
  clear h h' hnl hnl'
  go_enter Tryz.func88, Tryz.ntmps88
  go_wp2_with fail
  go_loopw [5] (fun i wr => ∃ k : Nat, k ≤ n' ∧ i = .int .i64 k ∧ Below w.heap.size w wr) (fun i _ => n' - (intOf i).toNat)
  case atStart => exact ⟨0, Nat.zero_le _, rfl, Below.refl _ _⟩
  case round =>
    obtain ⟨k, hk, rfl, hbr⟩ := hrel
    by_cases hlt : k < n'
    · obtain ⟨g, off, rfl, hg, hcell⟩ := hat (by omega)
      obtain ⟨g', off', rfl, hg', hcell'⟩ := hat' (by omega)
      obtain ⟨t, hx, hmem⟩ := at_lt HN.out hlt
      obtain ⟨kind, name, labels, kids⟩ := t
      have c0 : wr.cell? ⟨g, off + k * 4, none⟩ = some (.int .i64 kind) := cell_lit hbr (by omega) (hcell k 0 _ _ hx (by rw [Ty.pd_mk]; rfl))
      have c1 : wr.cell? ⟨g, off + k * 4 + 1, none⟩ = some (.string name) := cell_lit hbr (by omega) (hcell k 1 _ _ hx (by rw [Ty.pd_mk]; rfl))
      obtain ⟨labelsV, c2, hr2⟩ : ∃ u, wr.cell? ⟨g, off + k * 4 + 2, none⟩ = some u ∧ Rep wr B (.row 1 (labels.flatMap strC)) u := cell_rep hbr (by omega) hB (hcell k 2 _ _ hx (by rw [Ty.pd_mk]; rfl))
      have HR2 := Lib.hid hr2
      clear hr2
      obtain ⟨kidsV, c3, hr3⟩ : ∃ u, wr.cell? ⟨g, off + k * 4 + 3, none⟩ = some u ∧ Rep wr B (.row 4 (kids.flatMap Ty.pd)) u := cell_rep hbr (by omega) hB (hcell k 3 _ _ hx (by rw [Ty.pd_mk]; rfl))
      have HR3 := Lib.hid hr3
      clear hr3
      have d0' : wr.cell? ⟨g', off' + k * 4, none⟩ = some (.int .i64 kind) := cell_lit hbr (by omega) (hcell' k 0 _ _ hx (by rw [Ty.pd_mk]; rfl))
      have d1' : wr.cell? ⟨g', off' + k * 4 + 1, none⟩ = some (.string name) := cell_lit hbr (by omega) (hcell' k 1 _ _ hx (by rw [Ty.pd_mk]; rfl))
      obtain ⟨labelsV', d2', hr2'⟩ : ∃ u, wr.cell? ⟨g', off' + k * 4 + 2, none⟩ = some u ∧ Rep wr B (.row 1 (labels.flatMap strC)) u := cell_rep hbr (by omega) hB (hcell' k 2 _ _ hx (by rw [Ty.pd_mk]; rfl))
      have HQ2' := Lib.hid hr2'
      clear hr2'
      obtain ⟨kidsV', d3', hr3'⟩ : ∃ u, wr.cell? ⟨g', off' + k * 4 + 3, none⟩ = some u ∧ Rep wr B (.row 4 (kids.flatMap Ty.pd)) u := cell_rep hbr (by omega) hB (hcell' k 3 _ _ hx (by rw [Ty.pd_mk]; rfl))
      have HQ3' := Lib.hid hr3'
      clear hr3'
      have hlt' : (k : Int) < (n' : Int) := by omega
      have hgw : g < wr.heap.size := by have := hbr.size; omega
      have hgw' : g' < wr.heap.size := by have := hbr.size; omega
      have HM := Lib.hid hmem
      have HBW := Lib.hid (Nat.le_trans hB hbr.size)
      clear hx hcell hcell' hmem
      go_wp2_with fail
      have HC := Lib.hid (HI.out _ HM.out B [.int .i64 kind, .string name, labelsV, kidsV] [.int .i64 kind, .string name, labelsV', kidsV'] wr.drew HBW.out (Ty.close_ HR2.out.drew HR3.out.drew) (Ty.close_ HQ2'.out.drew HQ3'.out.drew))
      go_region_held3 (fun w' => w'.cell? ⟨g, off + k * 4, none⟩ = some (.int .i64 kind) ∧ w'.cell? ⟨g, off + k * 4 + 1, none⟩ = some (.string name) ∧ w'.cell? ⟨g, off + k * 4 + 2, none⟩ = some (labelsV) ∧ w'.cell? ⟨g, off + k * 4 + 3, none⟩ = some (kidsV) ∧ w'.cell? ⟨g', off' + k * 4, none⟩ = some (.int .i64 kind) ∧ w'.cell? ⟨g', off' + k * 4 + 1, none⟩ = some (.string name) ∧ w'.cell? ⟨g', off' + k * 4 + 2, none⟩ = some (labelsV') ∧ w'.cell? ⟨g', off' + k * 4 + 3, none⟩ = some (kidsV'))
        (first | go_keep | exact ⟨(hbq.cell (p := ⟨g, off + k * 4, none⟩) hgw).trans c0, (hbq.cell (p := ⟨g, off + k * 4 + 1, none⟩) hgw).trans c1, (hbq.cell (p := ⟨g, off + k * 4 + 2, none⟩) hgw).trans c2, (hbq.cell (p := ⟨g, off + k * 4 + 3, none⟩) hgw).trans c3, (hbq.cell (p := ⟨g', off' + k * 4, none⟩) hgw').trans d0', (hbq.cell (p := ⟨g', off' + k * 4 + 1, none⟩) hgw').trans d1', (hbq.cell (p := ⟨g', off' + k * 4 + 2, none⟩) hgw').trans d2', (hbq.cell (p := ⟨g', off' + k * 4 + 3, none⟩) hgw').trans d3'⟩)
        (first | (go_at_call 52; refine HC.out.mono ?_; rintro e wq ⟨rfl, hbq⟩))
      have hbn : Below w.heap.size w wq := hbr.drew.trans (hbq.mono hbr.size)
      clear hbq hbr c0 c1 c2 c3 d0' d1' d2' d3'
      go_wp2_with fail
      go_roundw
      case rel => exact ⟨k + 1, by omega, by go_num, hbn⟩
      case measure => simp [intOf]; omega
    · have hkn : k = n' := by omega
      subst hkn
      go_wp2_with fail
      go_ret
      exact ⟨rfl, hbr⟩
set_option maxHeartbeats 1600000 in
theorem eqType_step {kind : Int} {name : ByteArray} {labels : List ByteArray} {kids : List Ty} (ih_labels : EqR 33 (.row 1 (labels.flatMap strC))) (ih_kids : EqR 88 (.row 4 (kids.flatMap Ty.pd))) : EqC 52 (Ty.pd ⟨kind, name, labels, kids⟩) := by
  intro B cs us w hB h h'
  obtain ⟨labelsV, kidsV, rfl, r_labels, r_kids⟩ := Ty.open_ h
  obtain ⟨labelsV', kidsV', rfl, s_labels, s_kids⟩ := Ty.open_ h'
  have R_labels := Lib.hid r_labels
  have S_labels := Lib.hid s_labels
  clear r_labels s_labels
  have R_kids := Lib.hid r_kids
  have S_kids := Lib.hid s_kids
  clear r_kids s_kids
  go_enter Tryz.func52, Tryz.ntmps52
  go_wp2_with fail
  obtain ⟨w0, hw0⟩ : ∃ w0, w0 = (w.alloc (.cells #[.int .i64 kind, .string name, labelsV, kidsV] 60)).alloc (.cells #[.int .i64 kind, .string name, labelsV', kidsV'] 60) := ⟨_, rfl⟩
  rw [← hw0]
  have bA : Blk w0 w.heap.size 60 #[.int .i64 kind, .string name, labelsV, kidsV] := by rw [hw0]; exact (Blk.new w _ _).alloc _
  have bB : Blk w0 (w.heap.size + 1) 60 #[.int .i64 kind, .string name, labelsV', kidsV'] := by rw [hw0]; have := Blk.new (w.alloc (.cells #[.int .i64 kind, .string name, labelsV, kidsV] 60)) 60 #[.int .i64 kind, .string name, labelsV', kidsV']; simpa using this
  have hB0 : Below w.heap.size w w0 := by rw [hw0]; exact ((Below.refl _ _).alloc (Nat.le_refl _) _).alloc (by simp) _
  clear hw0
  refine (ih_labels B labelsV labelsV' _ (by have := hB0.size; omega) (R_labels.out.below (hB0.mono hB)) (S_labels.out.below (hB0.mono hB))).mono ?_
  rintro e w1 ⟨rfl, hb1⟩
  have hB1 := hB0.trans (hb1.mono hB0.size)
  replace bA := bA.step hb1
  replace bB := bB.step hb1
  have a1_3 : w1.cell? ⟨w.heap.size, 3, none⟩ = some (kidsV) := bA.cell 3
  have b1_3 : w1.cell? ⟨w.heap.size + 1, 3, none⟩ = some (kidsV') := bB.cell 3
  go_wp2_with fail
  refine (ih_kids B kidsV kidsV' _ (by have := hB1.size; omega) (R_kids.out.below (hB1.mono hB)) (S_kids.out.below (hB1.mono hB))).mono ?_
  rintro e w2 ⟨rfl, hb2⟩
  have hB2 := hB1.trans (hb2.mono hB1.size)
  replace bA := bA.step hb2
  replace bB := bB.step hb2
  go_wp2_with fail
  go_ret
  exact ⟨rfl, hB2⟩
mutual
theorem eqType_all : ∀ t : Ty, EqC 52 (Ty.pd t)
  | .mk kind name labels kids => eqType_step eqStringS_step (eqTypeS_step (eqType_mem kids))
theorem eqType_mem : ∀ ts : List Ty, ∀ t ∈ ts, EqC 52 (Ty.pd t)
  | [], x, hx => absurd hx (by simp)
  | t :: r, x, hx => (List.mem_cons.1 hx).elim (fun e => e ▸ eqType_all t) (fun h => eqType_mem r x h)
end
theorem eqTypeS_all (ts : List Ty) : EqR 88 (.row 4 (ts.flatMap Ty.pd)) := eqTypeS_step fun t _ => eqType_all t

set_option maxHeartbeats 1600000 in
theorem eqParam_step {name : ByteArray} {typ_kind : Int} {typ_name : ByteArray} {typ_labels : List ByteArray} {typ_kids : List Ty} (ih_typ : EqC 52 (Ty.pd ⟨typ_kind, typ_name, typ_labels, typ_kids⟩)) : EqC 87 (Param.pd ⟨name, ⟨typ_kind, typ_name, typ_labels, typ_kids⟩⟩) := by
  intro B cs us w hB h h'
  obtain ⟨typ_labelsV, typ_kidsV, rfl, r_typ_labels, r_typ_kids⟩ := Param.open_ h
  obtain ⟨typ_labelsV', typ_kidsV', rfl, s_typ_labels, s_typ_kids⟩ := Param.open_ h'
  have R_typ_labels := Lib.hid r_typ_labels
  have S_typ_labels := Lib.hid s_typ_labels
  clear r_typ_labels s_typ_labels
  have R_typ_kids := Lib.hid r_typ_kids
  have S_typ_kids := Lib.hid s_typ_kids
  clear r_typ_kids s_typ_kids
  go_enter Tryz.func87, Tryz.ntmps87
  go_wp2_with fail
  obtain ⟨w0, hw0⟩ : ∃ w0, w0 = (w.alloc (.cells #[.string name, .int .i64 typ_kind, .string typ_name, typ_labelsV, typ_kidsV] 115)).alloc (.cells #[.string name, .int .i64 typ_kind, .string typ_name, typ_labelsV', typ_kidsV'] 115) := ⟨_, rfl⟩
  rw [← hw0]
  have bA : Blk w0 w.heap.size 115 #[.string name, .int .i64 typ_kind, .string typ_name, typ_labelsV, typ_kidsV] := by rw [hw0]; exact (Blk.new w _ _).alloc _
  have bB : Blk w0 (w.heap.size + 1) 115 #[.string name, .int .i64 typ_kind, .string typ_name, typ_labelsV', typ_kidsV'] := by rw [hw0]; have := Blk.new (w.alloc (.cells #[.string name, .int .i64 typ_kind, .string typ_name, typ_labelsV, typ_kidsV] 115)) 115 #[.string name, .int .i64 typ_kind, .string typ_name, typ_labelsV', typ_kidsV']; simpa using this
  have hB0 : Below w.heap.size w w0 := by rw [hw0]; exact ((Below.refl _ _).alloc (Nat.le_refl _) _).alloc (by simp) _
  clear hw0
  refine (ih_typ B [.int .i64 typ_kind, .string typ_name, typ_labelsV, typ_kidsV] [.int .i64 typ_kind, .string typ_name, typ_labelsV', typ_kidsV'] _ (by have := hB0.size; omega) (Ty.close_ (R_typ_labels.out.below (hB0.mono hB)) (R_typ_kids.out.below (hB0.mono hB))) (Ty.close_ (S_typ_labels.out.below (hB0.mono hB)) (S_typ_kids.out.below (hB0.mono hB)))).mono ?_
  rintro e w1 ⟨rfl, hb1⟩
  have hB1 := hB0.trans (hb1.mono hB0.size)
  replace bA := bA.step hb1
  replace bB := bB.step hb1
  go_wp2_with fail
  go_ret
  exact ⟨rfl, hB1⟩
theorem eqParam_all (t : Param) : EqC 87 (Param.pd t) := by obtain ⟨name, ⟨typ_kind, typ_name, typ_labels, typ_kids⟩⟩ := t; exact eqParam_step (eqType_all _)

set_option maxHeartbeats 1600000 in
theorem eqParamS_step {ts : List Param} (ih : ∀ t ∈ ts, EqC 87 (Param.pd t)) : EqR 51 (.row 5 (ts.flatMap Param.pd)) := by
  intro B v u w hB h h'
  obtain ⟨A, n, c, rfl, hnl, hm, hat⟩ := rep_row Param.pd_length (by decide) h
  obtain ⟨A', n', c', rfl, hnl', _, hat'⟩ := rep_row Param.pd_length (by decide) h'
  have hnn : n' = n := by omega
  subst hnn
  unfold maxLen at hm
  have HN := Lib.hid hnl
  have HI := Lib.hid ih
  clear ih
  clear h h' hnl hnl'
  go_enter Tryz.func51, Tryz.ntmps51
  go_wp2_with fail
  go_loopw [5] (fun i wr => ∃ k : Nat, k ≤ n' ∧ i = .int .i64 k ∧ Below w.heap.size w wr) (fun i _ => n' - (intOf i).toNat)
  case atStart => exact ⟨0, Nat.zero_le _, rfl, Below.refl _ _⟩
  case round =>
    obtain ⟨k, hk, rfl, hbr⟩ := hrel
    by_cases hlt : k < n'
    · obtain ⟨g, off, rfl, hg, hcell⟩ := hat (by omega)
      obtain ⟨g', off', rfl, hg', hcell'⟩ := hat' (by omega)
      obtain ⟨t, hx, hmem⟩ := at_lt HN.out hlt
      obtain ⟨name, ⟨typ_kind, typ_name, typ_labels, typ_kids⟩⟩ := t
      have c0 : wr.cell? ⟨g, off + k * 5, none⟩ = some (.string name) := cell_lit hbr (by omega) (hcell k 0 _ _ hx (by rw [Param.pd_mk]; rfl))
      have c1 : wr.cell? ⟨g, off + k * 5 + 1, none⟩ = some (.int .i64 typ_kind) := cell_lit hbr (by omega) (hcell k 1 _ _ hx (by rw [Param.pd_mk]; rfl))
      have c2 : wr.cell? ⟨g, off + k * 5 + 2, none⟩ = some (.string typ_name) := cell_lit hbr (by omega) (hcell k 2 _ _ hx (by rw [Param.pd_mk]; rfl))
      obtain ⟨typ_labelsV, c3, hr3⟩ : ∃ u, wr.cell? ⟨g, off + k * 5 + 3, none⟩ = some u ∧ Rep wr B (.row 1 (typ_labels.flatMap strC)) u := cell_rep hbr (by omega) hB (hcell k 3 _ _ hx (by rw [Param.pd_mk]; rfl))
      have HR3 := Lib.hid hr3
      clear hr3
      obtain ⟨typ_kidsV, c4, hr4⟩ : ∃ u, wr.cell? ⟨g, off + k * 5 + 4, none⟩ = some u ∧ Rep wr B (.row 4 (typ_kids.flatMap Ty.pd)) u := cell_rep hbr (by omega) hB (hcell k 4 _ _ hx (by rw [Param.pd_mk]; rfl))
      have HR4 := Lib.hid hr4
      clear hr4
      have d0' : wr.cell? ⟨g', off' + k * 5, none⟩ = some (.string name) := cell_lit hbr (by omega) (hcell' k 0 _ _ hx (by rw [Param.pd_mk]; rfl))
      have d1' : wr.cell? ⟨g', off' + k * 5 + 1, none⟩ = some (.int .i64 typ_kind) := cell_lit hbr (by omega) (hcell' k 1 _ _ hx (by rw [Param.pd_mk]; rfl))
      have d2' : wr.cell? ⟨g', off' + k * 5 + 2, none⟩ = some (.string typ_name) := cell_lit hbr (by omega) (hcell' k 2 _ _ hx (by rw [Param.pd_mk]; rfl))
      obtain ⟨typ_labelsV', d3', hr3'⟩ : ∃ u, wr.cell? ⟨g', off' + k * 5 + 3, none⟩ = some u ∧ Rep wr B (.row 1 (typ_labels.flatMap strC)) u := cell_rep hbr (by omega) hB (hcell' k 3 _ _ hx (by rw [Param.pd_mk]; rfl))
      have HQ3' := Lib.hid hr3'
      clear hr3'
      obtain ⟨typ_kidsV', d4', hr4'⟩ : ∃ u, wr.cell? ⟨g', off' + k * 5 + 4, none⟩ = some u ∧ Rep wr B (.row 4 (typ_kids.flatMap Ty.pd)) u := cell_rep hbr (by omega) hB (hcell' k 4 _ _ hx (by rw [Param.pd_mk]; rfl))
      have HQ4' := Lib.hid hr4'
      clear hr4'
      have hlt' : (k : Int) < (n' : Int) := by omega
      have hgw : g < wr.heap.size := by have := hbr.size; omega
      have hgw' : g' < wr.heap.size := by have := hbr.size; omega
      have HM := Lib.hid hmem
      have HBW := Lib.hid (Nat.le_trans hB hbr.size)
      clear hx hcell hcell' hmem
      go_wp2_with fail
      have HC := Lib.hid (HI.out _ HM.out B [.string name, .int .i64 typ_kind, .string typ_name, typ_labelsV, typ_kidsV] [.string name, .int .i64 typ_kind, .string typ_name, typ_labelsV', typ_kidsV'] wr.drew HBW.out (Param.close_ HR3.out.drew HR4.out.drew) (Param.close_ HQ3'.out.drew HQ4'.out.drew))
      go_region_held3 (fun w' => w'.cell? ⟨g, off + k * 5, none⟩ = some (.string name) ∧ w'.cell? ⟨g, off + k * 5 + 1, none⟩ = some (.int .i64 typ_kind) ∧ w'.cell? ⟨g, off + k * 5 + 2, none⟩ = some (.string typ_name) ∧ w'.cell? ⟨g, off + k * 5 + 3, none⟩ = some (typ_labelsV) ∧ w'.cell? ⟨g, off + k * 5 + 4, none⟩ = some (typ_kidsV) ∧ w'.cell? ⟨g', off' + k * 5, none⟩ = some (.string name) ∧ w'.cell? ⟨g', off' + k * 5 + 1, none⟩ = some (.int .i64 typ_kind) ∧ w'.cell? ⟨g', off' + k * 5 + 2, none⟩ = some (.string typ_name) ∧ w'.cell? ⟨g', off' + k * 5 + 3, none⟩ = some (typ_labelsV') ∧ w'.cell? ⟨g', off' + k * 5 + 4, none⟩ = some (typ_kidsV'))
        (first | go_keep | exact ⟨(hbq.cell (p := ⟨g, off + k * 5, none⟩) hgw).trans c0, (hbq.cell (p := ⟨g, off + k * 5 + 1, none⟩) hgw).trans c1, (hbq.cell (p := ⟨g, off + k * 5 + 2, none⟩) hgw).trans c2, (hbq.cell (p := ⟨g, off + k * 5 + 3, none⟩) hgw).trans c3, (hbq.cell (p := ⟨g, off + k * 5 + 4, none⟩) hgw).trans c4, (hbq.cell (p := ⟨g', off' + k * 5, none⟩) hgw').trans d0', (hbq.cell (p := ⟨g', off' + k * 5 + 1, none⟩) hgw').trans d1', (hbq.cell (p := ⟨g', off' + k * 5 + 2, none⟩) hgw').trans d2', (hbq.cell (p := ⟨g', off' + k * 5 + 3, none⟩) hgw').trans d3', (hbq.cell (p := ⟨g', off' + k * 5 + 4, none⟩) hgw').trans d4'⟩)
        (first | (go_at_call 87; refine HC.out.mono ?_; rintro e wq ⟨rfl, hbq⟩))
      have hbn : Below w.heap.size w wq := hbr.drew.trans (hbq.mono hbr.size)
      clear hbq hbr c0 c1 c2 c3 c4 d0' d1' d2' d3' d4'
      go_wp2_with fail
      go_roundw
      case rel => exact ⟨k + 1, by omega, by go_num, hbn⟩
      case measure => simp [intOf]; omega
    · have hkn : k = n' := by omega
      subst hkn
      go_wp2_with fail
      go_ret
      exact ⟨rfl, hbr⟩
theorem eqParamS_all (ts : List Param) : EqR 51 (.row 5 (ts.flatMap Param.pd)) := eqParamS_step fun t _ => eqParam_all t

set_option maxHeartbeats 1600000 in
theorem eqFuncType_step {params : List Param} {result_kind : Int} {result_name : ByteArray} {result_labels : List ByteArray} {result_kids : List Ty} {async : Bool} (ih_params : EqR 51 (.row 5 (params.flatMap Param.pd))) (ih_result : EqC 52 (Ty.pd ⟨result_kind, result_name, result_labels, result_kids⟩)) : EqC 24 (FuncType.pd ⟨params, ⟨result_kind, result_name, result_labels, result_kids⟩, async⟩) := by
  intro B cs us w hB h h'
  obtain ⟨paramsV, result_labelsV, result_kidsV, rfl, r_params, r_result_labels, r_result_kids⟩ := FuncType.open_ h
  obtain ⟨paramsV', result_labelsV', result_kidsV', rfl, s_params, s_result_labels, s_result_kids⟩ := FuncType.open_ h'
  have R_params := Lib.hid r_params
  have S_params := Lib.hid s_params
  clear r_params s_params
  have R_result_labels := Lib.hid r_result_labels
  have S_result_labels := Lib.hid s_result_labels
  clear r_result_labels s_result_labels
  have R_result_kids := Lib.hid r_result_kids
  have S_result_kids := Lib.hid s_result_kids
  clear r_result_kids s_result_kids
  go_enter Tryz.func24, Tryz.ntmps24
  go_wp2_with fail
  obtain ⟨w0, hw0⟩ : ∃ w0, w0 = (w.alloc (.cells #[paramsV, .int .i64 result_kind, .string result_name, result_labelsV, result_kidsV, .bool async] 62)).alloc (.cells #[paramsV', .int .i64 result_kind, .string result_name, result_labelsV', result_kidsV', .bool async] 62) := ⟨_, rfl⟩
  rw [← hw0]
  have bA : Blk w0 w.heap.size 62 #[paramsV, .int .i64 result_kind, .string result_name, result_labelsV, result_kidsV, .bool async] := by rw [hw0]; exact (Blk.new w _ _).alloc _
  have bB : Blk w0 (w.heap.size + 1) 62 #[paramsV', .int .i64 result_kind, .string result_name, result_labelsV', result_kidsV', .bool async] := by rw [hw0]; have := Blk.new (w.alloc (.cells #[paramsV, .int .i64 result_kind, .string result_name, result_labelsV, result_kidsV, .bool async] 62)) 62 #[paramsV', .int .i64 result_kind, .string result_name, result_labelsV', result_kidsV', .bool async]; simpa using this
  have hB0 : Below w.heap.size w w0 := by rw [hw0]; exact ((Below.refl _ _).alloc (Nat.le_refl _) _).alloc (by simp) _
  clear hw0
  refine (ih_params B paramsV paramsV' _ (by have := hB0.size; omega) (R_params.out.below (hB0.mono hB)) (S_params.out.below (hB0.mono hB))).mono ?_
  rintro e w1 ⟨rfl, hb1⟩
  have hB1 := hB0.trans (hb1.mono hB0.size)
  replace bA := bA.step hb1
  replace bB := bB.step hb1
  have a1_1 : w1.cell? ⟨w.heap.size, 1, none⟩ = some (.int .i64 result_kind) := bA.cell 1
  have b1_1 : w1.cell? ⟨w.heap.size + 1, 1, none⟩ = some (.int .i64 result_kind) := bB.cell 1
  have a1_2 : w1.cell? ⟨w.heap.size, 2, none⟩ = some (.string result_name) := bA.cell 2
  have b1_2 : w1.cell? ⟨w.heap.size + 1, 2, none⟩ = some (.string result_name) := bB.cell 2
  have a1_3 : w1.cell? ⟨w.heap.size, 3, none⟩ = some (result_labelsV) := bA.cell 3
  have b1_3 : w1.cell? ⟨w.heap.size + 1, 3, none⟩ = some (result_labelsV') := bB.cell 3
  have a1_4 : w1.cell? ⟨w.heap.size, 4, none⟩ = some (result_kidsV) := bA.cell 4
  have b1_4 : w1.cell? ⟨w.heap.size + 1, 4, none⟩ = some (result_kidsV') := bB.cell 4
  go_wp2_with fail
  refine (ih_result B [.int .i64 result_kind, .string result_name, result_labelsV, result_kidsV] [.int .i64 result_kind, .string result_name, result_labelsV', result_kidsV'] _ (by have := hB1.size; omega) (Ty.close_ (R_result_labels.out.below (hB1.mono hB)) (R_result_kids.out.below (hB1.mono hB))) (Ty.close_ (S_result_labels.out.below (hB1.mono hB)) (S_result_kids.out.below (hB1.mono hB)))).mono ?_
  rintro e w2 ⟨rfl, hb2⟩
  have hB2 := hB1.trans (hb2.mono hB1.size)
  replace bA := bA.step hb2
  replace bB := bB.step hb2
  have a2_5 : w2.cell? ⟨w.heap.size, 5, none⟩ = some (.bool async) := bA.cell 5
  have b2_5 : w2.cell? ⟨w.heap.size + 1, 5, none⟩ = some (.bool async) := bB.cell 5
  go_wp2_with fail
  go_ret
  exact ⟨rfl, hB2⟩
theorem eqFuncType_all (t : FuncType) : EqC 24 (FuncType.pd t) := by obtain ⟨params, ⟨result_kind, result_name, result_labels, result_kids⟩, async⟩ := t; exact eqFuncType_step (eqParamS_all params) (eqType_all _)

set_option maxHeartbeats 1600000 in
theorem eqFunc_step {name : ByteArray} {typ_params : List Param} {typ_result_kind : Int} {typ_result_name : ByteArray} {typ_result_labels : List ByteArray} {typ_result_kids : List Ty} {typ_async : Bool} (ih_typ : EqC 24 (FuncType.pd ⟨typ_params, ⟨typ_result_kind, typ_result_name, typ_result_labels, typ_result_kids⟩, typ_async⟩)) : EqC 71 (Fun.pd ⟨name, ⟨typ_params, ⟨typ_result_kind, typ_result_name, typ_result_labels, typ_result_kids⟩, typ_async⟩⟩) := by
  intro B cs us w hB h h'
  obtain ⟨typ_paramsV, typ_result_labelsV, typ_result_kidsV, rfl, r_typ_params, r_typ_result_labels, r_typ_result_kids⟩ := Fun.open_ h
  obtain ⟨typ_paramsV', typ_result_labelsV', typ_result_kidsV', rfl, s_typ_params, s_typ_result_labels, s_typ_result_kids⟩ := Fun.open_ h'
  have R_typ_params := Lib.hid r_typ_params
  have S_typ_params := Lib.hid s_typ_params
  clear r_typ_params s_typ_params
  have R_typ_result_labels := Lib.hid r_typ_result_labels
  have S_typ_result_labels := Lib.hid s_typ_result_labels
  clear r_typ_result_labels s_typ_result_labels
  have R_typ_result_kids := Lib.hid r_typ_result_kids
  have S_typ_result_kids := Lib.hid s_typ_result_kids
  clear r_typ_result_kids s_typ_result_kids
  go_enter Tryz.func71, Tryz.ntmps71
  go_wp2_with fail
  obtain ⟨w0, hw0⟩ : ∃ w0, w0 = (w.alloc (.cells #[.string name, typ_paramsV, .int .i64 typ_result_kind, .string typ_result_name, typ_result_labelsV, typ_result_kidsV, .bool typ_async] 99)).alloc (.cells #[.string name, typ_paramsV', .int .i64 typ_result_kind, .string typ_result_name, typ_result_labelsV', typ_result_kidsV', .bool typ_async] 99) := ⟨_, rfl⟩
  rw [← hw0]
  have bA : Blk w0 w.heap.size 99 #[.string name, typ_paramsV, .int .i64 typ_result_kind, .string typ_result_name, typ_result_labelsV, typ_result_kidsV, .bool typ_async] := by rw [hw0]; exact (Blk.new w _ _).alloc _
  have bB : Blk w0 (w.heap.size + 1) 99 #[.string name, typ_paramsV', .int .i64 typ_result_kind, .string typ_result_name, typ_result_labelsV', typ_result_kidsV', .bool typ_async] := by rw [hw0]; have := Blk.new (w.alloc (.cells #[.string name, typ_paramsV, .int .i64 typ_result_kind, .string typ_result_name, typ_result_labelsV, typ_result_kidsV, .bool typ_async] 99)) 99 #[.string name, typ_paramsV', .int .i64 typ_result_kind, .string typ_result_name, typ_result_labelsV', typ_result_kidsV', .bool typ_async]; simpa using this
  have hB0 : Below w.heap.size w w0 := by rw [hw0]; exact ((Below.refl _ _).alloc (Nat.le_refl _) _).alloc (by simp) _
  clear hw0
  refine (ih_typ B [typ_paramsV, .int .i64 typ_result_kind, .string typ_result_name, typ_result_labelsV, typ_result_kidsV, .bool typ_async] [typ_paramsV', .int .i64 typ_result_kind, .string typ_result_name, typ_result_labelsV', typ_result_kidsV', .bool typ_async] _ (by have := hB0.size; omega) (FuncType.close_ (R_typ_params.out.below (hB0.mono hB)) (R_typ_result_labels.out.below (hB0.mono hB)) (R_typ_result_kids.out.below (hB0.mono hB))) (FuncType.close_ (S_typ_params.out.below (hB0.mono hB)) (S_typ_result_labels.out.below (hB0.mono hB)) (S_typ_result_kids.out.below (hB0.mono hB)))).mono ?_
  rintro e w1 ⟨rfl, hb1⟩
  have hB1 := hB0.trans (hb1.mono hB0.size)
  replace bA := bA.step hb1
  replace bB := bB.step hb1
  go_wp2_with fail
  go_ret
  exact ⟨rfl, hB1⟩
theorem eqFunc_all (t : Fun) : EqC 71 (Fun.pd t) := by obtain ⟨name, ⟨typ_params, ⟨typ_result_kind, typ_result_name, typ_result_labels, typ_result_kids⟩, typ_async⟩⟩ := t; exact eqFunc_step (eqFuncType_all _)

set_option maxHeartbeats 1600000 in
theorem eqFuncS_step {ts : List Fun} (ih : ∀ t ∈ ts, EqC 71 (Fun.pd t)) : EqR 34 (.row 7 (ts.flatMap Fun.pd)) := by
  intro B v u w hB h h'
  obtain ⟨A, n, c, rfl, hnl, hm, hat⟩ := rep_row Fun.pd_length (by decide) h
  obtain ⟨A', n', c', rfl, hnl', _, hat'⟩ := rep_row Fun.pd_length (by decide) h'
  have hnn : n' = n := by omega
  subst hnn
  unfold maxLen at hm
  have HN := Lib.hid hnl
  have HI := Lib.hid ih
  clear ih
  clear h h' hnl hnl'
  go_enter Tryz.func34, Tryz.ntmps34
  go_wp2_with fail
  go_loopw [5] (fun i wr => ∃ k : Nat, k ≤ n' ∧ i = .int .i64 k ∧ Below w.heap.size w wr) (fun i _ => n' - (intOf i).toNat)
  case atStart => exact ⟨0, Nat.zero_le _, rfl, Below.refl _ _⟩
  case round =>
    obtain ⟨k, hk, rfl, hbr⟩ := hrel
    by_cases hlt : k < n'
    · obtain ⟨g, off, rfl, hg, hcell⟩ := hat (by omega)
      obtain ⟨g', off', rfl, hg', hcell'⟩ := hat' (by omega)
      obtain ⟨t, hx, hmem⟩ := at_lt HN.out hlt
      obtain ⟨name, ⟨typ_params, ⟨typ_result_kind, typ_result_name, typ_result_labels, typ_result_kids⟩, typ_async⟩⟩ := t
      have c0 : wr.cell? ⟨g, off + k * 7, none⟩ = some (.string name) := cell_lit hbr (by omega) (hcell k 0 _ _ hx (by rw [Fun.pd_mk]; rfl))
      obtain ⟨typ_paramsV, c1, hr1⟩ : ∃ u, wr.cell? ⟨g, off + k * 7 + 1, none⟩ = some u ∧ Rep wr B (.row 5 (typ_params.flatMap Param.pd)) u := cell_rep hbr (by omega) hB (hcell k 1 _ _ hx (by rw [Fun.pd_mk]; rfl))
      have HR1 := Lib.hid hr1
      clear hr1
      have c2 : wr.cell? ⟨g, off + k * 7 + 2, none⟩ = some (.int .i64 typ_result_kind) := cell_lit hbr (by omega) (hcell k 2 _ _ hx (by rw [Fun.pd_mk]; rfl))
      have c3 : wr.cell? ⟨g, off + k * 7 + 3, none⟩ = some (.string typ_result_name) := cell_lit hbr (by omega) (hcell k 3 _ _ hx (by rw [Fun.pd_mk]; rfl))
      obtain ⟨typ_result_labelsV, c4, hr4⟩ : ∃ u, wr.cell? ⟨g, off + k * 7 + 4, none⟩ = some u ∧ Rep wr B (.row 1 (typ_result_labels.flatMap strC)) u := cell_rep hbr (by omega) hB (hcell k 4 _ _ hx (by rw [Fun.pd_mk]; rfl))
      have HR4 := Lib.hid hr4
      clear hr4
      obtain ⟨typ_result_kidsV, c5, hr5⟩ : ∃ u, wr.cell? ⟨g, off + k * 7 + 5, none⟩ = some u ∧ Rep wr B (.row 4 (typ_result_kids.flatMap Ty.pd)) u := cell_rep hbr (by omega) hB (hcell k 5 _ _ hx (by rw [Fun.pd_mk]; rfl))
      have HR5 := Lib.hid hr5
      clear hr5
      have c6 : wr.cell? ⟨g, off + k * 7 + 6, none⟩ = some (.bool typ_async) := cell_lit hbr (by omega) (hcell k 6 _ _ hx (by rw [Fun.pd_mk]; rfl))
      have d0' : wr.cell? ⟨g', off' + k * 7, none⟩ = some (.string name) := cell_lit hbr (by omega) (hcell' k 0 _ _ hx (by rw [Fun.pd_mk]; rfl))
      obtain ⟨typ_paramsV', d1', hr1'⟩ : ∃ u, wr.cell? ⟨g', off' + k * 7 + 1, none⟩ = some u ∧ Rep wr B (.row 5 (typ_params.flatMap Param.pd)) u := cell_rep hbr (by omega) hB (hcell' k 1 _ _ hx (by rw [Fun.pd_mk]; rfl))
      have HQ1' := Lib.hid hr1'
      clear hr1'
      have d2' : wr.cell? ⟨g', off' + k * 7 + 2, none⟩ = some (.int .i64 typ_result_kind) := cell_lit hbr (by omega) (hcell' k 2 _ _ hx (by rw [Fun.pd_mk]; rfl))
      have d3' : wr.cell? ⟨g', off' + k * 7 + 3, none⟩ = some (.string typ_result_name) := cell_lit hbr (by omega) (hcell' k 3 _ _ hx (by rw [Fun.pd_mk]; rfl))
      obtain ⟨typ_result_labelsV', d4', hr4'⟩ : ∃ u, wr.cell? ⟨g', off' + k * 7 + 4, none⟩ = some u ∧ Rep wr B (.row 1 (typ_result_labels.flatMap strC)) u := cell_rep hbr (by omega) hB (hcell' k 4 _ _ hx (by rw [Fun.pd_mk]; rfl))
      have HQ4' := Lib.hid hr4'
      clear hr4'
      obtain ⟨typ_result_kidsV', d5', hr5'⟩ : ∃ u, wr.cell? ⟨g', off' + k * 7 + 5, none⟩ = some u ∧ Rep wr B (.row 4 (typ_result_kids.flatMap Ty.pd)) u := cell_rep hbr (by omega) hB (hcell' k 5 _ _ hx (by rw [Fun.pd_mk]; rfl))
      have HQ5' := Lib.hid hr5'
      clear hr5'
      have d6' : wr.cell? ⟨g', off' + k * 7 + 6, none⟩ = some (.bool typ_async) := cell_lit hbr (by omega) (hcell' k 6 _ _ hx (by rw [Fun.pd_mk]; rfl))
      have hlt' : (k : Int) < (n' : Int) := by omega
      have hgw : g < wr.heap.size := by have := hbr.size; omega
      have hgw' : g' < wr.heap.size := by have := hbr.size; omega
      have HM := Lib.hid hmem
      have HBW := Lib.hid (Nat.le_trans hB hbr.size)
      clear hx hcell hcell' hmem
      go_wp2_with fail
      have HC := Lib.hid (HI.out _ HM.out B [.string name, typ_paramsV, .int .i64 typ_result_kind, .string typ_result_name, typ_result_labelsV, typ_result_kidsV, .bool typ_async] [.string name, typ_paramsV', .int .i64 typ_result_kind, .string typ_result_name, typ_result_labelsV', typ_result_kidsV', .bool typ_async] wr.drew HBW.out (Fun.close_ HR1.out.drew HR4.out.drew HR5.out.drew) (Fun.close_ HQ1'.out.drew HQ4'.out.drew HQ5'.out.drew))
      go_region_held3 (fun w' => w'.cell? ⟨g, off + k * 7, none⟩ = some (.string name) ∧ w'.cell? ⟨g, off + k * 7 + 1, none⟩ = some (typ_paramsV) ∧ w'.cell? ⟨g, off + k * 7 + 2, none⟩ = some (.int .i64 typ_result_kind) ∧ w'.cell? ⟨g, off + k * 7 + 3, none⟩ = some (.string typ_result_name) ∧ w'.cell? ⟨g, off + k * 7 + 4, none⟩ = some (typ_result_labelsV) ∧ w'.cell? ⟨g, off + k * 7 + 5, none⟩ = some (typ_result_kidsV) ∧ w'.cell? ⟨g, off + k * 7 + 6, none⟩ = some (.bool typ_async) ∧ w'.cell? ⟨g', off' + k * 7, none⟩ = some (.string name) ∧ w'.cell? ⟨g', off' + k * 7 + 1, none⟩ = some (typ_paramsV') ∧ w'.cell? ⟨g', off' + k * 7 + 2, none⟩ = some (.int .i64 typ_result_kind) ∧ w'.cell? ⟨g', off' + k * 7 + 3, none⟩ = some (.string typ_result_name) ∧ w'.cell? ⟨g', off' + k * 7 + 4, none⟩ = some (typ_result_labelsV') ∧ w'.cell? ⟨g', off' + k * 7 + 5, none⟩ = some (typ_result_kidsV') ∧ w'.cell? ⟨g', off' + k * 7 + 6, none⟩ = some (.bool typ_async))
        (first | go_keep | exact ⟨(hbq.cell (p := ⟨g, off + k * 7, none⟩) hgw).trans c0, (hbq.cell (p := ⟨g, off + k * 7 + 1, none⟩) hgw).trans c1, (hbq.cell (p := ⟨g, off + k * 7 + 2, none⟩) hgw).trans c2, (hbq.cell (p := ⟨g, off + k * 7 + 3, none⟩) hgw).trans c3, (hbq.cell (p := ⟨g, off + k * 7 + 4, none⟩) hgw).trans c4, (hbq.cell (p := ⟨g, off + k * 7 + 5, none⟩) hgw).trans c5, (hbq.cell (p := ⟨g, off + k * 7 + 6, none⟩) hgw).trans c6, (hbq.cell (p := ⟨g', off' + k * 7, none⟩) hgw').trans d0', (hbq.cell (p := ⟨g', off' + k * 7 + 1, none⟩) hgw').trans d1', (hbq.cell (p := ⟨g', off' + k * 7 + 2, none⟩) hgw').trans d2', (hbq.cell (p := ⟨g', off' + k * 7 + 3, none⟩) hgw').trans d3', (hbq.cell (p := ⟨g', off' + k * 7 + 4, none⟩) hgw').trans d4', (hbq.cell (p := ⟨g', off' + k * 7 + 5, none⟩) hgw').trans d5', (hbq.cell (p := ⟨g', off' + k * 7 + 6, none⟩) hgw').trans d6'⟩)
        (first | (go_at_call 71; refine HC.out.mono ?_; rintro e wq ⟨rfl, hbq⟩))
      have hbn : Below w.heap.size w wq := hbr.drew.trans (hbq.mono hbr.size)
      clear hbq hbr c0 c1 c2 c3 c4 c5 c6 d0' d1' d2' d3' d4' d5' d6'
      go_wp2_with fail
      go_roundw
      case rel => exact ⟨k + 1, by omega, by go_num, hbn⟩
      case measure => simp [intOf]; omega
    · have hkn : k = n' := by omega
      subst hkn
      go_wp2_with fail
      go_ret
      exact ⟨rfl, hbr⟩
theorem eqFuncS_all (ts : List Fun) : EqR 34 (.row 7 (ts.flatMap Fun.pd)) := eqFuncS_step fun t _ => eqFunc_all t

set_option maxHeartbeats 1600000 in
theorem eqFace_step {package : ByteArray} {name : ByteArray} {version : ByteArray} {resources : List ByteArray} {funcs : List Fun} (ih_resources : EqR 33 (.row 1 (resources.flatMap strC))) (ih_funcs : EqR 34 (.row 7 (funcs.flatMap Fun.pd))) : EqC 11 (Face.pd ⟨package, name, version, resources, funcs⟩) := by
  intro B cs us w hB h h'
  obtain ⟨resourcesV, funcsV, rfl, r_resources, r_funcs⟩ := Face.open_ h
  obtain ⟨resourcesV', funcsV', rfl, s_resources, s_funcs⟩ := Face.open_ h'
  have R_resources := Lib.hid r_resources
  have S_resources := Lib.hid s_resources
  clear r_resources s_resources
  have R_funcs := Lib.hid r_funcs
  have S_funcs := Lib.hid s_funcs
  clear r_funcs s_funcs
  go_enter Tryz.func11, Tryz.ntmps11
  go_wp2_with fail
  obtain ⟨w0, hw0⟩ : ∃ w0, w0 = (w.alloc (.cells #[.string package, .string name, .string version, resourcesV, funcsV] 30)).alloc (.cells #[.string package, .string name, .string version, resourcesV', funcsV'] 30) := ⟨_, rfl⟩
  rw [← hw0]
  have bA : Blk w0 w.heap.size 30 #[.string package, .string name, .string version, resourcesV, funcsV] := by rw [hw0]; exact (Blk.new w _ _).alloc _
  have bB : Blk w0 (w.heap.size + 1) 30 #[.string package, .string name, .string version, resourcesV', funcsV'] := by rw [hw0]; have := Blk.new (w.alloc (.cells #[.string package, .string name, .string version, resourcesV, funcsV] 30)) 30 #[.string package, .string name, .string version, resourcesV', funcsV']; simpa using this
  have hB0 : Below w.heap.size w w0 := by rw [hw0]; exact ((Below.refl _ _).alloc (Nat.le_refl _) _).alloc (by simp) _
  clear hw0
  refine (ih_resources B resourcesV resourcesV' _ (by have := hB0.size; omega) (R_resources.out.below (hB0.mono hB)) (S_resources.out.below (hB0.mono hB))).mono ?_
  rintro e w1 ⟨rfl, hb1⟩
  have hB1 := hB0.trans (hb1.mono hB0.size)
  replace bA := bA.step hb1
  replace bB := bB.step hb1
  have a1_4 : w1.cell? ⟨w.heap.size, 4, none⟩ = some (funcsV) := bA.cell 4
  have b1_4 : w1.cell? ⟨w.heap.size + 1, 4, none⟩ = some (funcsV') := bB.cell 4
  go_wp2_with fail
  refine (ih_funcs B funcsV funcsV' _ (by have := hB1.size; omega) (R_funcs.out.below (hB1.mono hB)) (S_funcs.out.below (hB1.mono hB))).mono ?_
  rintro e w2 ⟨rfl, hb2⟩
  have hB2 := hB1.trans (hb2.mono hB1.size)
  replace bA := bA.step hb2
  replace bB := bB.step hb2
  go_wp2_with fail
  go_ret
  exact ⟨rfl, hB2⟩
theorem eqFace_all (t : Face) : EqC 11 (Face.pd t) := by obtain ⟨package, name, version, resources, funcs⟩ := t; exact eqFace_step eqStringS_step (eqFuncS_all funcs)

set_option maxHeartbeats 1600000 in
theorem eqFaceS_step {ts : List Face} (ih : ∀ t ∈ ts, EqC 11 (Face.pd t)) : EqR 42 (.row 5 (ts.flatMap Face.pd)) := by
  intro B v u w hB h h'
  obtain ⟨A, n, c, rfl, hnl, hm, hat⟩ := rep_row Face.pd_length (by decide) h
  obtain ⟨A', n', c', rfl, hnl', _, hat'⟩ := rep_row Face.pd_length (by decide) h'
  have hnn : n' = n := by omega
  subst hnn
  unfold maxLen at hm
  have HN := Lib.hid hnl
  have HI := Lib.hid ih
  clear ih
  clear h h' hnl hnl'
  go_enter Tryz.func42, Tryz.ntmps42
  go_wp2_with fail
  go_loopw [5] (fun i wr => ∃ k : Nat, k ≤ n' ∧ i = .int .i64 k ∧ Below w.heap.size w wr) (fun i _ => n' - (intOf i).toNat)
  case atStart => exact ⟨0, Nat.zero_le _, rfl, Below.refl _ _⟩
  case round =>
    obtain ⟨k, hk, rfl, hbr⟩ := hrel
    by_cases hlt : k < n'
    · obtain ⟨g, off, rfl, hg, hcell⟩ := hat (by omega)
      obtain ⟨g', off', rfl, hg', hcell'⟩ := hat' (by omega)
      obtain ⟨t, hx, hmem⟩ := at_lt HN.out hlt
      obtain ⟨package, name, version, resources, funcs⟩ := t
      have c0 : wr.cell? ⟨g, off + k * 5, none⟩ = some (.string package) := cell_lit hbr (by omega) (hcell k 0 _ _ hx (by rw [Face.pd_mk]; rfl))
      have c1 : wr.cell? ⟨g, off + k * 5 + 1, none⟩ = some (.string name) := cell_lit hbr (by omega) (hcell k 1 _ _ hx (by rw [Face.pd_mk]; rfl))
      have c2 : wr.cell? ⟨g, off + k * 5 + 2, none⟩ = some (.string version) := cell_lit hbr (by omega) (hcell k 2 _ _ hx (by rw [Face.pd_mk]; rfl))
      obtain ⟨resourcesV, c3, hr3⟩ : ∃ u, wr.cell? ⟨g, off + k * 5 + 3, none⟩ = some u ∧ Rep wr B (.row 1 (resources.flatMap strC)) u := cell_rep hbr (by omega) hB (hcell k 3 _ _ hx (by rw [Face.pd_mk]; rfl))
      have HR3 := Lib.hid hr3
      clear hr3
      obtain ⟨funcsV, c4, hr4⟩ : ∃ u, wr.cell? ⟨g, off + k * 5 + 4, none⟩ = some u ∧ Rep wr B (.row 7 (funcs.flatMap Fun.pd)) u := cell_rep hbr (by omega) hB (hcell k 4 _ _ hx (by rw [Face.pd_mk]; rfl))
      have HR4 := Lib.hid hr4
      clear hr4
      have d0' : wr.cell? ⟨g', off' + k * 5, none⟩ = some (.string package) := cell_lit hbr (by omega) (hcell' k 0 _ _ hx (by rw [Face.pd_mk]; rfl))
      have d1' : wr.cell? ⟨g', off' + k * 5 + 1, none⟩ = some (.string name) := cell_lit hbr (by omega) (hcell' k 1 _ _ hx (by rw [Face.pd_mk]; rfl))
      have d2' : wr.cell? ⟨g', off' + k * 5 + 2, none⟩ = some (.string version) := cell_lit hbr (by omega) (hcell' k 2 _ _ hx (by rw [Face.pd_mk]; rfl))
      obtain ⟨resourcesV', d3', hr3'⟩ : ∃ u, wr.cell? ⟨g', off' + k * 5 + 3, none⟩ = some u ∧ Rep wr B (.row 1 (resources.flatMap strC)) u := cell_rep hbr (by omega) hB (hcell' k 3 _ _ hx (by rw [Face.pd_mk]; rfl))
      have HQ3' := Lib.hid hr3'
      clear hr3'
      obtain ⟨funcsV', d4', hr4'⟩ : ∃ u, wr.cell? ⟨g', off' + k * 5 + 4, none⟩ = some u ∧ Rep wr B (.row 7 (funcs.flatMap Fun.pd)) u := cell_rep hbr (by omega) hB (hcell' k 4 _ _ hx (by rw [Face.pd_mk]; rfl))
      have HQ4' := Lib.hid hr4'
      clear hr4'
      have hlt' : (k : Int) < (n' : Int) := by omega
      have hgw : g < wr.heap.size := by have := hbr.size; omega
      have hgw' : g' < wr.heap.size := by have := hbr.size; omega
      have HM := Lib.hid hmem
      have HBW := Lib.hid (Nat.le_trans hB hbr.size)
      clear hx hcell hcell' hmem
      go_wp2_with fail
      have HC := Lib.hid (HI.out _ HM.out B [.string package, .string name, .string version, resourcesV, funcsV] [.string package, .string name, .string version, resourcesV', funcsV'] wr.drew HBW.out (Face.close_ HR3.out.drew HR4.out.drew) (Face.close_ HQ3'.out.drew HQ4'.out.drew))
      go_region_held3 (fun w' => w'.cell? ⟨g, off + k * 5, none⟩ = some (.string package) ∧ w'.cell? ⟨g, off + k * 5 + 1, none⟩ = some (.string name) ∧ w'.cell? ⟨g, off + k * 5 + 2, none⟩ = some (.string version) ∧ w'.cell? ⟨g, off + k * 5 + 3, none⟩ = some (resourcesV) ∧ w'.cell? ⟨g, off + k * 5 + 4, none⟩ = some (funcsV) ∧ w'.cell? ⟨g', off' + k * 5, none⟩ = some (.string package) ∧ w'.cell? ⟨g', off' + k * 5 + 1, none⟩ = some (.string name) ∧ w'.cell? ⟨g', off' + k * 5 + 2, none⟩ = some (.string version) ∧ w'.cell? ⟨g', off' + k * 5 + 3, none⟩ = some (resourcesV') ∧ w'.cell? ⟨g', off' + k * 5 + 4, none⟩ = some (funcsV'))
        (first | go_keep | exact ⟨(hbq.cell (p := ⟨g, off + k * 5, none⟩) hgw).trans c0, (hbq.cell (p := ⟨g, off + k * 5 + 1, none⟩) hgw).trans c1, (hbq.cell (p := ⟨g, off + k * 5 + 2, none⟩) hgw).trans c2, (hbq.cell (p := ⟨g, off + k * 5 + 3, none⟩) hgw).trans c3, (hbq.cell (p := ⟨g, off + k * 5 + 4, none⟩) hgw).trans c4, (hbq.cell (p := ⟨g', off' + k * 5, none⟩) hgw').trans d0', (hbq.cell (p := ⟨g', off' + k * 5 + 1, none⟩) hgw').trans d1', (hbq.cell (p := ⟨g', off' + k * 5 + 2, none⟩) hgw').trans d2', (hbq.cell (p := ⟨g', off' + k * 5 + 3, none⟩) hgw').trans d3', (hbq.cell (p := ⟨g', off' + k * 5 + 4, none⟩) hgw').trans d4'⟩)
        (first | (go_at_call 11; refine HC.out.mono ?_; rintro e wq ⟨rfl, hbq⟩))
      have hbn : Below w.heap.size w wq := hbr.drew.trans (hbq.mono hbr.size)
      clear hbq hbr c0 c1 c2 c3 c4 d0' d1' d2' d3' d4'
      go_wp2_with fail
      go_roundw
      case rel => exact ⟨k + 1, by omega, by go_num, hbn⟩
      case measure => simp [intOf]; omega
    · have hkn : k = n' := by omega
      subst hkn
      go_wp2_with fail
      go_ret
      exact ⟨rfl, hbr⟩
theorem eqFaceS_all (ts : List Face) : EqR 42 (.row 5 (ts.flatMap Face.pd)) := eqFaceS_step fun t _ => eqFace_all t

set_option maxHeartbeats 1600000 in
theorem eqWorld_step {package : ByteArray} {name : ByteArray} {version : ByteArray} {imports : List Face} {exports : List Face} (ih_imports : EqR 42 (.row 5 (imports.flatMap Face.pd))) (ih_exports : EqR 42 (.row 5 (exports.flatMap Face.pd))) : EqC 19 (Wld.pd ⟨package, name, version, imports, exports⟩) := by
  intro B cs us w hB h h'
  obtain ⟨importsV, exportsV, rfl, r_imports, r_exports⟩ := Wld.open_ h
  obtain ⟨importsV', exportsV', rfl, s_imports, s_exports⟩ := Wld.open_ h'
  have R_imports := Lib.hid r_imports
  have S_imports := Lib.hid s_imports
  clear r_imports s_imports
  have R_exports := Lib.hid r_exports
  have S_exports := Lib.hid s_exports
  clear r_exports s_exports
  go_enter Tryz.func19, Tryz.ntmps19
  go_wp2_with fail
  obtain ⟨w0, hw0⟩ : ∃ w0, w0 = (w.alloc (.cells #[.string package, .string name, .string version, importsV, exportsV] 45)).alloc (.cells #[.string package, .string name, .string version, importsV', exportsV'] 45) := ⟨_, rfl⟩
  rw [← hw0]
  have bA : Blk w0 w.heap.size 45 #[.string package, .string name, .string version, importsV, exportsV] := by rw [hw0]; exact (Blk.new w _ _).alloc _
  have bB : Blk w0 (w.heap.size + 1) 45 #[.string package, .string name, .string version, importsV', exportsV'] := by rw [hw0]; have := Blk.new (w.alloc (.cells #[.string package, .string name, .string version, importsV, exportsV] 45)) 45 #[.string package, .string name, .string version, importsV', exportsV']; simpa using this
  have hB0 : Below w.heap.size w w0 := by rw [hw0]; exact ((Below.refl _ _).alloc (Nat.le_refl _) _).alloc (by simp) _
  clear hw0
  refine (ih_imports B importsV importsV' _ (by have := hB0.size; omega) (R_imports.out.below (hB0.mono hB)) (S_imports.out.below (hB0.mono hB))).mono ?_
  rintro e w1 ⟨rfl, hb1⟩
  have hB1 := hB0.trans (hb1.mono hB0.size)
  replace bA := bA.step hb1
  replace bB := bB.step hb1
  have a1_4 : w1.cell? ⟨w.heap.size, 4, none⟩ = some (exportsV) := bA.cell 4
  have b1_4 : w1.cell? ⟨w.heap.size + 1, 4, none⟩ = some (exportsV') := bB.cell 4
  go_wp2_with fail
  refine (ih_exports B exportsV exportsV' _ (by have := hB1.size; omega) (R_exports.out.below (hB1.mono hB)) (S_exports.out.below (hB1.mono hB))).mono ?_
  rintro e w2 ⟨rfl, hb2⟩
  have hB2 := hB1.trans (hb2.mono hB1.size)
  replace bA := bA.step hb2
  replace bB := bB.step hb2
  go_wp2_with fail
  go_ret
  exact ⟨rfl, hB2⟩
theorem eqWorld_all (t : Wld) : EqC 19 (Wld.pd t) := by obtain ⟨package, name, version, imports, exports⟩ := t; exact eqWorld_step (eqFaceS_all imports) (eqFaceS_all exports)












set_option maxHeartbeats 1600000 in
theorem eqReason_step {kind : Int} {at_ : ByteArray} : EqC 14 (Reason.pd ⟨kind, at_⟩) := by
  intro B cs us w hB h h'
  obtain rfl := Reason.open_ h
  obtain rfl := Reason.open_ h'
  go_enter Tryz.func14, Tryz.ntmps14
  go_wp2_with fail
  go_ret
  exact ⟨rfl, ((Below.refl _ _).alloc (Nat.le_refl _) _).alloc (by simp) _⟩
theorem eqReason_all (t : Reason) : EqC 14 (Reason.pd t) := by obtain ⟨kind, at_⟩ := t; exact eqReason_step 






end Go.Proofs.YtbafphecjijdmaaGreatDoor
