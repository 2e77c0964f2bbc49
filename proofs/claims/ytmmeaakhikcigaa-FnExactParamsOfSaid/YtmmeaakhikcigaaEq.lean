/-
  The laws' own helpers 'eq..' over the program's types (by program: tygen2.py, tyfam.py).
-/
import Derived.Test.YtmmeaakhikcigaaFam
import Derived.Test.YtmmeaakhikcigaaTy
namespace Go.Proofs.Ytmmeaakhikcigaa
open Go.RowKit
set_option linter.unusedVariables false
set_option linter.unusedSimpArgs false
set_option linter.unnecessarySimpa false
set_option maxRecDepth 100000

set_option maxHeartbeats 1600000 in
theorem eqInt64S_step {ts : List Int} : EqR 49 (.row 1 (ts.flatMap intC)) := by
  intro B v u w hB h h'
  obtain ⟨A, n, c, rfl, hnl, hm, hat⟩ := rep_row intC_length (by decide) h
  obtain ⟨A', n', c', rfl, hnl', _, hat'⟩ := rep_row intC_length (by decide) h'
  have hnn : n' = n := by omega
  subst hnn
  unfold maxLen at hm
  have HN := Lib.hid hnl
  clear h h' hnl hnl'
  go_enter Try.func49, Try.ntmps49
  go_wp2_with fail
  go_loopw [5] (fun i wr => ∃ k : Nat, k ≤ n' ∧ i = .int .i64 k ∧ Below w.heap.size w wr) (fun i _ => n' - (intOf i).toNat)
  case atStart => exact ⟨0, Nat.zero_le _, rfl, Below.refl _ _⟩
  case round =>
    obtain ⟨k, hk, rfl, hbr⟩ := hrel
    by_cases hlt : k < n'
    · obtain ⟨g, off, rfl, hg, hcell⟩ := hat (by omega)
      obtain ⟨g', off', rfl, hg', hcell'⟩ := hat' (by omega)
      obtain ⟨t, hx, hmem⟩ := at_lt HN.out hlt
      have c0 : wr.cell? ⟨g, off + k, none⟩ = some (.int .i64 t) := cell_lit hbr (by omega) (by have := hcell k 0 _ _ hx rfl; simpa using this)
      have d0' : wr.cell? ⟨g', off' + k, none⟩ = some (.int .i64 t) := cell_lit hbr (by omega) (by have := hcell' k 0 _ _ hx rfl; simpa using this)
      have hlt' : (k : Int) < (n' : Int) := by omega
      have hgw : g < wr.heap.size := by have := hbr.size; omega
      have hgw' : g' < wr.heap.size := by have := hbr.size; omega
      clear hx hcell hcell' hmem
      go_wp2_with fail
      go_quiet (fail)
      have hbn := below_drewN hbr
      clear hbr c0 d0'
      go_wp2_with fail
      go_roundw
      case rel => exact ⟨k + 1, by omega, by go_num, hbn _⟩
      case measure => simp [intOf]; omega
    · have hkn : k = n' := by omega
      subst hkn
      go_wp2_with fail
      go_ret
      exact ⟨rfl, hbr⟩
theorem eqInt64S_all (ts : List Int) : EqR 49 (.row 1 (ts.flatMap intC)) := eqInt64S_step

set_option maxHeartbeats 1600000 in
theorem eqStringS_step {ts : List ByteArray} : EqR 90 (.row 1 (ts.flatMap strC)) := by
  intro B v u w hB h h'
  obtain ⟨A, n, c, rfl, hnl, hm, hat⟩ := rep_row strC_length (by decide) h
  obtain ⟨A', n', c', rfl, hnl', _, hat'⟩ := rep_row strC_length (by decide) h'
  have hnn : n' = n := by omega
  subst hnn
  unfold maxLen at hm
  have HN := Lib.hid hnl
  clear h h' hnl hnl'
  go_enter Try.func90, Try.ntmps90
  go_wp2_with fail
  go_loopw [5] (fun i wr => ∃ k : Nat, k ≤ n' ∧ i = .int .i64 k ∧ Below w.heap.size w wr) (fun i _ => n' - (intOf i).toNat)
  case atStart => exact ⟨0, Nat.zero_le _, rfl, Below.refl _ _⟩
  case round =>
    obtain ⟨k, hk, rfl, hbr⟩ := hrel
    by_cases hlt : k < n'
    · obtain ⟨g, off, rfl, hg, hcell⟩ := hat (by omega)
      obtain ⟨g', off', rfl, hg', hcell'⟩ := hat' (by omega)
      obtain ⟨t, hx, hmem⟩ := at_lt HN.out hlt
      have c0 : wr.cell? ⟨g, off + k, none⟩ = some (.string t) := cell_lit hbr (by omega) (by have := hcell k 0 _ _ hx rfl; simpa using this)
      have d0' : wr.cell? ⟨g', off' + k, none⟩ = some (.string t) := cell_lit hbr (by omega) (by have := hcell' k 0 _ _ hx rfl; simpa using this)
      have hlt' : (k : Int) < (n' : Int) := by omega
      have hgw : g < wr.heap.size := by have := hbr.size; omega
      have hgw' : g' < wr.heap.size := by have := hbr.size; omega
      clear hx hcell hcell' hmem
      go_wp2_with fail
      go_quiet (fail)
      have hbn := below_drewN hbr
      clear hbr c0 d0'
      go_wp2_with fail
      go_roundw
      case rel => exact ⟨k + 1, by omega, by go_num, hbn _⟩
      case measure => simp [intOf]; omega
    · have hkn : k = n' := by omega
      subst hkn
      go_wp2_with fail
      go_ret
      exact ⟨rfl, hbr⟩
theorem eqStringS_all (ts : List ByteArray) : EqR 90 (.row 1 (ts.flatMap strC)) := eqStringS_step




set_option maxHeartbeats 1600000 in
theorem eqTypeS_step {ts : List Ty} (ih : ∀ t ∈ ts, EqC 35 (Ty.pd t)) : EqR 30 (.row 4 (ts.flatMap Ty.pd)) := by
  intro B v u w hB h h'
  obtain ⟨A, n, c, rfl, hnl, hm, hat⟩ := rep_row Ty.pd_length (by decide) h
  obtain ⟨A', n', c', rfl, hnl', _, hat'⟩ := rep_row Ty.pd_length (by decide) h'
  have hnn : n' = n := by omega
  subst hnn
  unfold maxLen at hm
  have HN := Lib.hid hnl
  have HI := Lib.hid ih
  clear ih
  clear h h' hnl hnl'
  go_enter Try.func30, Try.ntmps30
  go_wp2_with fail
  go_loopw [5] (fun i wr => ∃ k : Nat, k ≤ n' ∧ i = .int .i64 k ∧ Below w.heap.size w wr) (fun i _ => n' - (intOf i).toNat)
  case atStart => exact ⟨0, Nat.zero_le _, rfl, Below.refl _ _⟩
  case round =>
    obtain ⟨k, hk, rfl, hbr⟩ := hrel
    by_cases hlt : k < n'
    · obtain ⟨g, off, rfl, hg, hcell⟩ := hat (by omega)
      obtain ⟨g', off', rfl, hg', hcell'⟩ := hat' (by omega)
      obtain ⟨t, hx, hmem⟩ := at_lt HN.out hlt
      obtain ⟨kind, name, labels, kids⟩ := t
      have c0 : wr.cell? ⟨g, off + k * 4, none⟩ = some (.int .i64 kind) := cell_lit hbr (by omega) (hcell k 0 _ _ hx (by rw [Ty.pd_mk]; rfl))
      have c1 : wr.cell? ⟨g, off + k * 4 + 1, none⟩ = some (.string name) := cell_lit hbr (by omega) (hcell k 1 _ _ hx (by rw [Ty.pd_mk]; rfl))
      obtain ⟨labelsV, c2, hr2⟩ : ∃ u, wr.cell? ⟨g, off + k * 4 + 2, none⟩ = some u ∧ Rep wr B (.row 1 (labels.flatMap strC)) u := cell_rep hbr (by omega) hB (hcell k 2 _ _ hx (by rw [Ty.pd_mk]; rfl))
      have HR2 := Lib.hid hr2
      clear hr2
      obtain ⟨kidsV, c3, hr3⟩ : ∃ u, wr.cell? ⟨g, off + k * 4 + 3, none⟩ = some u ∧ Rep wr B (.row 4 (kids.flatMap Ty.pd)) u := cell_rep hbr (by omega) hB (hcell k 3 _ _ hx (by rw [Ty.pd_mk]; rfl))
      have HR3 := Lib.hid hr3
      clear hr3
      have d0' : wr.cell? ⟨g', off' + k * 4, none⟩ = some (.int .i64 kind) := cell_lit hbr (by omega) (hcell' k 0 _ _ hx (by rw [Ty.pd_mk]; rfl))
      have d1' : wr.cell? ⟨g', off' + k * 4 + 1, none⟩ = some (.string name) := cell_lit hbr (by omega) (hcell' k 1 _ _ hx (by rw [Ty.pd_mk]; rfl))
      obtain ⟨labelsV', d2', hr2'⟩ : ∃ u, wr.cell? ⟨g', off' + k * 4 + 2, none⟩ = some u ∧ Rep wr B (.row 1 (labels.flatMap strC)) u := cell_rep hbr (by omega) hB (hcell' k 2 _ _ hx (by rw [Ty.pd_mk]; rfl))
      have HQ2' := Lib.hid hr2'
      clear hr2'
      obtain ⟨kidsV', d3', hr3'⟩ : ∃ u, wr.cell? ⟨g', off' + k * 4 + 3, none⟩ = some u ∧ Rep wr B (.row 4 (kids.flatMap Ty.pd)) u := cell_rep hbr (by omega) hB (hcell' k 3 _ _ hx (by rw [Ty.pd_mk]; rfl))
      have HQ3' := Lib.hid hr3'
      clear hr3'
      have hlt' : (k : Int) < (n' : Int) := by omega
      have hgw : g < wr.heap.size := by have := hbr.size; omega
      have hgw' : g' < wr.heap.size := by have := hbr.size; omega
      have HM := Lib.hid hmem
      have HBW := Lib.hid (Nat.le_trans hB hbr.size)
      clear hx hcell hcell' hmem
      go_wp2_with fail
      have HC := Lib.hid (HI.out _ HM.out B [.int .i64 kind, .string name, labelsV, kidsV] [.int .i64 kind, .string name, labelsV', kidsV'] wr.drew HBW.out (Ty.close_ HR2.out.drew HR3.out.drew) (Ty.close_ HQ2'.out.drew HQ3'.out.drew))
      go_region_held3 (fun w' => w'.cell? ⟨g, off + k * 4, none⟩ = some (.int .i64 kind) ∧ w'.cell? ⟨g, off + k * 4 + 1, none⟩ = some (.string name) ∧ w'.cell? ⟨g, off + k * 4 + 2, none⟩ = some (labelsV) ∧ w'.cell? ⟨g, off + k * 4 + 3, none⟩ = some (kidsV) ∧ w'.cell? ⟨g', off' + k * 4, none⟩ = some (.int .i64 kind) ∧ w'.cell? ⟨g', off' + k * 4 + 1, none⟩ = some (.string name) ∧ w'.cell? ⟨g', off' + k * 4 + 2, none⟩ = some (labelsV') ∧ w'.cell? ⟨g', off' + k * 4 + 3, none⟩ = some (kidsV'))
        (first | go_keep | exact ⟨(hbq.cell (p := ⟨g, off + k * 4, none⟩) hgw).trans c0, (hbq.cell (p := ⟨g, off + k * 4 + 1, none⟩) hgw).trans c1, (hbq.cell (p := ⟨g, off + k * 4 + 2, none⟩) hgw).trans c2, (hbq.cell (p := ⟨g, off + k * 4 + 3, none⟩) hgw).trans c3, (hbq.cell (p := ⟨g', off' + k * 4, none⟩) hgw').trans d0', (hbq.cell (p := ⟨g', off' + k * 4 + 1, none⟩) hgw').trans d1', (hbq.cell (p := ⟨g', off' + k * 4 + 2, none⟩) hgw').trans d2', (hbq.cell (p := ⟨g', off' + k * 4 + 3, none⟩) hgw').trans d3'⟩)
        (first | (go_at_call 35; refine HC.out.mono ?_; rintro e wq ⟨rfl, hbq⟩))
      have hbn : Below w.heap.size w wq := hbr.drew.trans (hbq.mono hbr.size)
      clear hbq hbr c0 c1 c2 c3 d0' d1' d2' d3'
      go_wp2_with fail
      go_roundw
      case rel => exact ⟨k + 1, by omega, by go_num, hbn⟩
      case measure => simp [intOf]; omega
    · have hkn : k = n' := by omega
      subst hkn
      go_wp2_with fail
      go_ret
      exact ⟨rfl, hbr⟩
set_option maxHeartbeats 1600000 in
theorem eqType_step {kind : Int} {name : ByteArray} {labels : List ByteArray} {kids : List Ty} (ih_labels : EqR 90 (.row 1 (labels.flatMap strC))) (ih_kids : EqR 30 (.row 4 (kids.flatMap Ty.pd))) : EqC 35 (Ty.pd ⟨kind, name, labels, kids⟩) := by
  intro B cs us w hB h h'
  obtain ⟨labelsV, kidsV, rfl, r_labels, r_kids⟩ := Ty.open_ h
  obtain ⟨labelsV', kidsV', rfl, s_labels, s_kids⟩ := Ty.open_ h'
  have R_labels := Lib.hid r_labels
  have S_labels := Lib.hid s_labels
  clear r_labels s_labels
  have R_kids := Lib.hid r_kids
  have S_kids := Lib.hid s_kids
  clear r_kids s_kids
  go_enter Try.func35, Try.ntmps35
  go_wp2_with fail
  obtain ⟨w0, hw0⟩ : ∃ w0, w0 = (w.alloc (.cells #[.int .i64 kind, .string name, labelsV, kidsV] 51)).alloc (.cells #[.int .i64 kind, .string name, labelsV', kidsV'] 51) := ⟨_, rfl⟩
  rw [← hw0]
  have bA : Blk w0 w.heap.size 51 #[.int .i64 kind, .string name, labelsV, kidsV] := by rw [hw0]; exact (Blk.new w _ _).alloc _
  have bB : Blk w0 (w.heap.size + 1) 51 #[.int .i64 kind, .string name, labelsV', kidsV'] := by rw [hw0]; have := Blk.new (w.alloc (.cells #[.int .i64 kind, .string name, labelsV, kidsV] 51)) 51 #[.int .i64 kind, .string name, labelsV', kidsV']; simpa using this
  have hB0 : Below w.heap.size w w0 := by rw [hw0]; exact ((Below.refl _ _).alloc (Nat.le_refl _) _).alloc (by simp) _
  clear hw0
  refine (ih_labels B labelsV labelsV' _ (by have := hB0.size; omega) (R_labels.out.below (hB0.mono hB)) (S_labels.out.below (hB0.mono hB))).mono ?_
  rintro e w1 ⟨rfl, hb1⟩
  have hB1 := hB0.trans (hb1.mono hB0.size)
  replace bA := bA.step hb1
  replace bB := bB.step hb1
  have a1_3 : w1.cell? ⟨w.heap.size, 3, none⟩ = some (kidsV) := bA.cell 3
  have b1_3 : w1.cell? ⟨w.heap.size + 1, 3, none⟩ = some (kidsV') := bB.cell 3
  go_wp2_with fail
  refine (ih_kids B kidsV kidsV' _ (by have := hB1.size; omega) (R_kids.out.below (hB1.mono hB)) (S_kids.out.below (hB1.mono hB))).mono ?_
  rintro e w2 ⟨rfl, hb2⟩
  have hB2 := hB1.trans (hb2.mono hB1.size)
  replace bA := bA.step hb2
  replace bB := bB.step hb2
  go_wp2_with fail
  go_ret
  exact ⟨rfl, hB2⟩
mutual
theorem eqType_all : ∀ t : Ty, EqC 35 (Ty.pd t)
  | .mk kind name labels kids => eqType_step eqStringS_step (eqTypeS_step (eqType_mem kids))
theorem eqType_mem : ∀ ts : List Ty, ∀ t ∈ ts, EqC 35 (Ty.pd t)
  | [], x, hx => absurd hx (by simp)
  | t :: r, x, hx => (List.mem_cons.1 hx).elim (fun e => e ▸ eqType_all t) (fun h => eqType_mem r x h)
end
theorem eqTypeS_all (ts : List Ty) : EqR 30 (.row 4 (ts.flatMap Ty.pd)) := eqTypeS_step fun t _ => eqType_all t

set_option maxHeartbeats 1600000 in
theorem eqParam_step {name : ByteArray} {typ_kind : Int} {typ_name : ByteArray} {typ_labels : List ByteArray} {typ_kids : List Ty} (ih_typ : EqC 35 (Ty.pd ⟨typ_kind, typ_name, typ_labels, typ_kids⟩)) : EqC 157 (Param.pd ⟨name, ⟨typ_kind, typ_name, typ_labels, typ_kids⟩⟩) := by
  intro B cs us w hB h h'
  obtain ⟨typ_labelsV, typ_kidsV, rfl, r_typ_labels, r_typ_kids⟩ := Param.open_ h
  obtain ⟨typ_labelsV', typ_kidsV', rfl, s_typ_labels, s_typ_kids⟩ := Param.open_ h'
  have R_typ_labels := Lib.hid r_typ_labels
  have S_typ_labels := Lib.hid s_typ_labels
  clear r_typ_labels s_typ_labels
  have R_typ_kids := Lib.hid r_typ_kids
  have S_typ_kids := Lib.hid s_typ_kids
  clear r_typ_kids s_typ_kids
  go_enter Try.func157, Try.ntmps157
  go_wp2_with fail
  obtain ⟨w0, hw0⟩ : ∃ w0, w0 = (w.alloc (.cells #[.string name, .int .i64 typ_kind, .string typ_name, typ_labelsV, typ_kidsV] 142)).alloc (.cells #[.string name, .int .i64 typ_kind, .string typ_name, typ_labelsV', typ_kidsV'] 142) := ⟨_, rfl⟩
  rw [← hw0]
  have bA : Blk w0 w.heap.size 142 #[.string name, .int .i64 typ_kind, .string typ_name, typ_labelsV, typ_kidsV] := by rw [hw0]; exact (Blk.new w _ _).alloc _
  have bB : Blk w0 (w.heap.size + 1) 142 #[.string name, .int .i64 typ_kind, .string typ_name, typ_labelsV', typ_kidsV'] := by rw [hw0]; have := Blk.new (w.alloc (.cells #[.string name, .int .i64 typ_kind, .string typ_name, typ_labelsV, typ_kidsV] 142)) 142 #[.string name, .int .i64 typ_kind, .string typ_name, typ_labelsV', typ_kidsV']; simpa using this
  have hB0 : Below w.heap.size w w0 := by rw [hw0]; exact ((Below.refl _ _).alloc (Nat.le_refl _) _).alloc (by simp) _
  clear hw0
  refine (ih_typ B [.int .i64 typ_kind, .string typ_name, typ_labelsV, typ_kidsV] [.int .i64 typ_kind, .string typ_name, typ_labelsV', typ_kidsV'] _ (by have := hB0.size; omega) (Ty.close_ (R_typ_labels.out.below (hB0.mono hB)) (R_typ_kids.out.below (hB0.mono hB))) (Ty.close_ (S_typ_labels.out.below (hB0.mono hB)) (S_typ_kids.out.below (hB0.mono hB)))).mono ?_
  rintro e w1 ⟨rfl, hb1⟩
  have hB1 := hB0.trans (hb1.mono hB0.size)
  replace bA := bA.step hb1
  replace bB := bB.step hb1
  go_wp2_with fail
  go_ret
  exact ⟨rfl, hB1⟩
theorem eqParam_all (t : Param) : EqC 157 (Param.pd t) := by obtain ⟨name, ⟨typ_kind, typ_name, typ_labels, typ_kids⟩⟩ := t; exact eqParam_step (eqType_all _)

set_option maxHeartbeats 1600000 in
theorem eqParamS_step {ts : List Param} (ih : ∀ t ∈ ts, EqC 157 (Param.pd t)) : EqR 115 (.row 5 (ts.flatMap Param.pd)) := by
  intro B v u w hB h h'
  obtain ⟨A, n, c, rfl, hnl, hm, hat⟩ := rep_row Param.pd_length (by decide) h
  obtain ⟨A', n', c', rfl, hnl', _, hat'⟩ := rep_row Param.pd_length (by decide) h'
  have hnn : n' = n := by omega
  subst hnn
  unfold maxLen at hm
  have HN := Lib.hid hnl
  have HI := Lib.hid ih
  clear ih
  clear h h' hnl hnl'
  go_enter Try.func115, Try.ntmps115
  go_wp2_with fail
  go_loopw [5] (fun i wr => ∃ k : Nat, k ≤ n' ∧ i = .int .i64 k ∧ Below w.heap.size w wr) (fun i _ => n' - (intOf i).toNat)
  case atStart => exact ⟨0, Nat.zero_le _, rfl, Below.refl _ _⟩
  case round =>
    obtain ⟨k, hk, rfl, hbr⟩ := hrel
    by_cases hlt : k < n'
    · obtain ⟨g, off, rfl, hg, hcell⟩ := hat (by omega)
      obtain ⟨g', off', rfl, hg', hcell'⟩ := hat' (by omega)
      obtain ⟨t, hx, hmem⟩ := at_lt HN.out hlt
      obtain ⟨name, ⟨typ_kind, typ_name, typ_labels, typ_kids⟩⟩ := t
      have c0 : wr.cell? ⟨g, off + k * 5, none⟩ = some (.string name) := cell_lit hbr (by omega) (hcell k 0 _ _ hx (by rw [Param.pd_mk]; rfl))
      have c1 : wr.cell? ⟨g, off + k * 5 + 1, none⟩ = some (.int .i64 typ_kind) := cell_lit hbr (by omega) (hcell k 1 _ _ hx (by rw [Param.pd_mk]; rfl))
      have c2 : wr.cell? ⟨g, off + k * 5 + 2, none⟩ = some (.string typ_name) := cell_lit hbr (by omega) (hcell k 2 _ _ hx (by rw [Param.pd_mk]; rfl))
      obtain ⟨typ_labelsV, c3, hr3⟩ : ∃ u, wr.cell? ⟨g, off + k * 5 + 3, none⟩ = some u ∧ Rep wr B (.row 1 (typ_labels.flatMap strC)) u := cell_rep hbr (by omega) hB (hcell k 3 _ _ hx (by rw [Param.pd_mk]; rfl))
      have HR3 := Lib.hid hr3
      clear hr3
      obtain ⟨typ_kidsV, c4, hr4⟩ : ∃ u, wr.cell? ⟨g, off + k * 5 + 4, none⟩ = some u ∧ Rep wr B (.row 4 (typ_kids.flatMap Ty.pd)) u := cell_rep hbr (by omega) hB (hcell k 4 _ _ hx (by rw [Param.pd_mk]; rfl))
      have HR4 := Lib.hid hr4
      clear hr4
      have d0' : wr.cell? ⟨g', off' + k * 5, none⟩ = some (.string name) := cell_lit hbr (by omega) (hcell' k 0 _ _ hx (by rw [Param.pd_mk]; rfl))
      have d1' : wr.cell? ⟨g', off' + k * 5 + 1, none⟩ = some (.int .i64 typ_kind) := cell_lit hbr (by omega) (hcell' k 1 _ _ hx (by rw [Param.pd_mk]; rfl))
      have d2' : wr.cell? ⟨g', off' + k * 5 + 2, none⟩ = some (.string typ_name) := cell_lit hbr (by omega) (hcell' k 2 _ _ hx (by rw [Param.pd_mk]; rfl))
      obtain ⟨typ_labelsV', d3', hr3'⟩ : ∃ u, wr.cell? ⟨g', off' + k * 5 + 3, none⟩ = some u ∧ Rep wr B (.row 1 (typ_labels.flatMap strC)) u := cell_rep hbr (by omega) hB (hcell' k 3 _ _ hx (by rw [Param.pd_mk]; rfl))
      have HQ3' := Lib.hid hr3'
      clear hr3'
      obtain ⟨typ_kidsV', d4', hr4'⟩ : ∃ u, wr.cell? ⟨g', off' + k * 5 + 4, none⟩ = some u ∧ Rep wr B (.row 4 (typ_kids.flatMap Ty.pd)) u := cell_rep hbr (by omega) hB (hcell' k 4 _ _ hx (by rw [Param.pd_mk]; rfl))
      have HQ4' := Lib.hid hr4'
      clear hr4'
      have hlt' : (k : Int) < (n' : Int) := by omega
      have hgw : g < wr.heap.size := by have := hbr.size; omega
      have hgw' : g' < wr.heap.size := by have := hbr.size; omega
      have HM := Lib.hid hmem
      have HBW := Lib.hid (Nat.le_trans hB hbr.size)
      clear hx hcell hcell' hmem
      go_wp2_with fail
      have HC := Lib.hid (HI.out _ HM.out B [.string name, .int .i64 typ_kind, .string typ_name, typ_labelsV, typ_kidsV] [.string name, .int .i64 typ_kind, .string typ_name, typ_labelsV', typ_kidsV'] wr.drew HBW.out (Param.close_ HR3.out.drew HR4.out.drew) (Param.close_ HQ3'.out.drew HQ4'.out.drew))
      go_region_held3 (fun w' => w'.cell? ⟨g, off + k * 5, none⟩ = some (.string name) ∧ w'.cell? ⟨g, off + k * 5 + 1, none⟩ = some (.int .i64 typ_kind) ∧ w'.cell? ⟨g, off + k * 5 + 2, none⟩ = some (.string typ_name) ∧ w'.cell? ⟨g, off + k * 5 + 3, none⟩ = some (typ_labelsV) ∧ w'.cell? ⟨g, off + k * 5 + 4, none⟩ = some (typ_kidsV) ∧ w'.cell? ⟨g', off' + k * 5, none⟩ = some (.string name) ∧ w'.cell? ⟨g', off' + k * 5 + 1, none⟩ = some (.int .i64 typ_kind) ∧ w'.cell? ⟨g', off' + k * 5 + 2, none⟩ = some (.string typ_name) ∧ w'.cell? ⟨g', off' + k * 5 + 3, none⟩ = some (typ_labelsV') ∧ w'.cell? ⟨g', off' + k * 5 + 4, none⟩ = some (typ_kidsV'))
        (first | go_keep | exact ⟨(hbq.cell (p := ⟨g, off + k * 5, none⟩) hgw).trans c0, (hbq.cell (p := ⟨g, off + k * 5 + 1, none⟩) hgw).trans c1, (hbq.cell (p := ⟨g, off + k * 5 + 2, none⟩) hgw).trans c2, (hbq.cell (p := ⟨g, off + k * 5 + 3, none⟩) hgw).trans c3, (hbq.cell (p := ⟨g, off + k * 5 + 4, none⟩) hgw).trans c4, (hbq.cell (p := ⟨g', off' + k * 5, none⟩) hgw').trans d0', (hbq.cell (p := ⟨g', off' + k * 5 + 1, none⟩) hgw').trans d1', (hbq.cell (p := ⟨g', off' + k * 5 + 2, none⟩) hgw').trans d2', (hbq.cell (p := ⟨g', off' + k * 5 + 3, none⟩) hgw').trans d3', (hbq.cell (p := ⟨g', off' + k * 5 + 4, none⟩) hgw').trans d4'⟩)
        (first | (go_at_call 157; refine HC.out.mono ?_; rintro e wq ⟨rfl, hbq⟩))
      have hbn : Below w.heap.size w wq := hbr.drew.trans (hbq.mono hbr.size)
      clear hbq hbr c0 c1 c2 c3 c4 d0' d1' d2' d3' d4'
      go_wp2_with fail
      go_roundw
      case rel => exact ⟨k + 1, by omega, by go_num, hbn⟩
      case measure => simp [intOf]; omega
    · have hkn : k = n' := by omega
      subst hkn
      go_wp2_with fail
      go_ret
      exact ⟨rfl, hbr⟩
theorem eqParamS_all (ts : List Param) : EqR 115 (.row 5 (ts.flatMap Param.pd)) := eqParamS_step fun t _ => eqParam_all t

set_option maxHeartbeats 1600000 in
theorem eqFuncType_step {params : List Param} {result_kind : Int} {result_name : ByteArray} {result_labels : List ByteArray} {result_kids : List Ty} {async : Bool} (ih_params : EqR 115 (.row 5 (params.flatMap Param.pd))) (ih_result : EqC 35 (Ty.pd ⟨result_kind, result_name, result_labels, result_kids⟩)) : EqC 62 (FuncType.pd ⟨params, ⟨result_kind, result_name, result_labels, result_kids⟩, async⟩) := by
  intro B cs us w hB h h'
  obtain ⟨paramsV, result_labelsV, result_kidsV, rfl, r_params, r_result_labels, r_result_kids⟩ := FuncType.open_ h
  obtain ⟨paramsV', result_labelsV', result_kidsV', rfl, s_params, s_result_labels, s_result_kids⟩ := FuncType.open_ h'
  have R_params := Lib.hid r_params
  have S_params := Lib.hid s_params
  clear r_params s_params
  have R_result_labels := Lib.hid r_result_labels
  have S_result_labels := Lib.hid s_result_labels
  clear r_result_labels s_result_labels
  have R_result_kids := Lib.hid r_result_kids
  have S_result_kids := Lib.hid s_result_kids
  clear r_result_kids s_result_kids
  go_enter Try.func62, Try.ntmps62
  go_wp2_with fail
  obtain ⟨w0, hw0⟩ : ∃ w0, w0 = (w.alloc (.cells #[paramsV, .int .i64 result_kind, .string result_name, result_labelsV, result_kidsV, .bool async] 71)).alloc (.cells #[paramsV', .int .i64 result_kind, .string result_name, result_labelsV', result_kidsV', .bool async] 71) := ⟨_, rfl⟩
  rw [← hw0]
  have bA : Blk w0 w.heap.size 71 #[paramsV, .int .i64 result_kind, .string result_name, result_labelsV, result_kidsV, .bool async] := by rw [hw0]; exact (Blk.new w _ _).alloc _
  have bB : Blk w0 (w.heap.size + 1) 71 #[paramsV', .int .i64 result_kind, .string result_name, result_labelsV', result_kidsV', .bool async] := by rw [hw0]; have := Blk.new (w.alloc (.cells #[paramsV, .int .i64 result_kind, .string result_name, result_labelsV, result_kidsV, .bool async] 71)) 71 #[paramsV', .int .i64 result_kind, .string result_name, result_labelsV', result_kidsV', .bool async]; simpa using this
  have hB0 : Below w.heap.size w w0 := by rw [hw0]; exact ((Below.refl _ _).alloc (Nat.le_refl _) _).alloc (by simp) _
  clear hw0
  refine (ih_params B paramsV paramsV' _ (by have := hB0.size; omega) (R_params.out.below (hB0.mono hB)) (S_params.out.below (hB0.mono hB))).mono ?_
  rintro e w1 ⟨rfl, hb1⟩
  have hB1 := hB0.trans (hb1.mono hB0.size)
  replace bA := bA.step hb1
  replace bB := bB.step hb1
  have a1_1 : w1.cell? ⟨w.heap.size, 1, none⟩ = some (.int .i64 result_kind) := bA.cell 1
  have b1_1 : w1.cell? ⟨w.heap.size + 1, 1, none⟩ = some (.int .i64 result_kind) := bB.cell 1
  have a1_2 : w1.cell? ⟨w.heap.size, 2, none⟩ = some (.string result_name) := bA.cell 2
  have b1_2 : w1.cell? ⟨w.heap.size + 1, 2, none⟩ = some (.string result_name) := bB.cell 2
  have a1_3 : w1.cell? ⟨w.heap.size, 3, none⟩ = some (result_labelsV) := bA.cell 3
  have b1_3 : w1.cell? ⟨w.heap.size + 1, 3, none⟩ = some (result_labelsV') := bB.cell 3
  have a1_4 : w1.cell? ⟨w.heap.size, 4, none⟩ = some (result_kidsV) := bA.cell 4
  have b1_4 : w1.cell? ⟨w.heap.size + 1, 4, none⟩ = some (result_kidsV') := bB.cell 4
  go_wp2_with fail
  refine (ih_result B [.int .i64 result_kind, .string result_name, result_labelsV, result_kidsV] [.int .i64 result_kind, .string result_name, result_labelsV', result_kidsV'] _ (by have := hB1.size; omega) (Ty.close_ (R_result_labels.out.below (hB1.mono hB)) (R_result_kids.out.below (hB1.mono hB))) (Ty.close_ (S_result_labels.out.below (hB1.mono hB)) (S_result_kids.out.below (hB1.mono hB)))).mono ?_
  rintro e w2 ⟨rfl, hb2⟩
  have hB2 := hB1.trans (hb2.mono hB1.size)
  replace bA := bA.step hb2
  replace bB := bB.step hb2
  have a2_5 : w2.cell? ⟨w.heap.size, 5, none⟩ = some (.bool async) := bA.cell 5
  have b2_5 : w2.cell? ⟨w.heap.size + 1, 5, none⟩ = some (.bool async) := bB.cell 5
  go_wp2_with fail
  go_ret
  exact ⟨rfl, hB2⟩
theorem eqFuncType_all (t : FuncType) : EqC 62 (FuncType.pd t) := by obtain ⟨params, ⟨result_kind, result_name, result_labels, result_kids⟩, async⟩ := t; exact eqFuncType_step (eqParamS_all params) (eqType_all _)






set_option maxHeartbeats 1600000 in
theorem eqIns_step {op : Int} {a : Int} : EqC 192 (Ins.pd ⟨op, a⟩) := by
  intro B cs us w hB h h'
  obtain rfl := Ins.open_ h
  obtain rfl := Ins.open_ h'
  go_enter Try.func192, Try.ntmps192
  go_wp2_with fail
  go_ret
  exact ⟨rfl, ((Below.refl _ _).alloc (Nat.le_refl _) _).alloc (by simp) _⟩
theorem eqIns_all (t : Ins) : EqC 192 (Ins.pd t) := by obtain ⟨op, a⟩ := t; exact eqIns_step 

set_option maxHeartbeats 1600000 in
theorem eqImport_step {name : ByteArray} {params : Int} {result : Bool} : EqC 131 (Imp.pd ⟨name, params, result⟩) := by
  intro B cs us w hB h h'
  obtain rfl := Imp.open_ h
  obtain rfl := Imp.open_ h'
  go_enter Try.func131, Try.ntmps131
  go_wp2_with fail
  go_ret
  exact ⟨rfl, ((Below.refl _ _).alloc (Nat.le_refl _) _).alloc (by simp) _⟩
theorem eqImport_all (t : Imp) : EqC 131 (Imp.pd t) := by obtain ⟨name, params, result⟩ := t; exact eqImport_step 

set_option maxHeartbeats 1600000 in
theorem eqInsS_step {ts : List Ins} (ih : ∀ t ∈ ts, EqC 192 (Ins.pd t)) : EqR 171 (.row 2 (ts.flatMap Ins.pd)) := by
  intro B v u w hB h h'
  obtain ⟨A, n, c, rfl, hnl, hm, hat⟩ := rep_row Ins.pd_length (by decide) h
  obtain ⟨A', n', c', rfl, hnl', _, hat'⟩ := rep_row Ins.pd_length (by decide) h'
  have hnn : n' = n := by omega
  subst hnn
  unfold maxLen at hm
  have HN := Lib.hid hnl
  have HI := Lib.hid ih
  clear ih
  clear h h' hnl hnl'
  go_enter Try.func171, Try.ntmps171
  go_wp2_with fail
  go_loopw [5] (fun i wr => ∃ k : Nat, k ≤ n' ∧ i = .int .i64 k ∧ Below w.heap.size w wr) (fun i _ => n' - (intOf i).toNat)
  case atStart => exact ⟨0, Nat.zero_le _, rfl, Below.refl _ _⟩
  case round =>
    obtain ⟨k, hk, rfl, hbr⟩ := hrel
    by_cases hlt : k < n'
    · obtain ⟨g, off, rfl, hg, hcell⟩ := hat (by omega)
      obtain ⟨g', off', rfl, hg', hcell'⟩ := hat' (by omega)
      obtain ⟨t, hx, hmem⟩ := at_lt HN.out hlt
      obtain ⟨op, a⟩ := t
      have c0 : wr.cell? ⟨g, off + k * 2, none⟩ = some (.int .i64 op) := cell_lit hbr (by omega) (hcell k 0 _ _ hx (by rw [Ins.pd_mk]; rfl))
      have c1 : wr.cell? ⟨g, off + k * 2 + 1, none⟩ = some (.int .i64 a) := cell_lit hbr (by omega) (hcell k 1 _ _ hx (by rw [Ins.pd_mk]; rfl))
      have d0' : wr.cell? ⟨g', off' + k * 2, none⟩ = some (.int .i64 op) := cell_lit hbr (by omega) (hcell' k 0 _ _ hx (by rw [Ins.pd_mk]; rfl))
      have d1' : wr.cell? ⟨g', off' + k * 2 + 1, none⟩ = some (.int .i64 a) := cell_lit hbr (by omega) (hcell' k 1 _ _ hx (by rw [Ins.pd_mk]; rfl))
      have hlt' : (k : Int) < (n' : Int) := by omega
      have hgw : g < wr.heap.size := by have := hbr.size; omega
      have hgw' : g' < wr.heap.size := by have := hbr.size; omega
      have HM := Lib.hid hmem
      have HBW := Lib.hid (Nat.le_trans hB hbr.size)
      clear hx hcell hcell' hmem
      go_wp2_with fail
      have HC := Lib.hid (HI.out _ HM.out B [.int .i64 op, .int .i64 a] [.int .i64 op, .int .i64 a] wr.drew HBW.out (Ins.close_) (Ins.close_))
      go_region_held3 (fun w' => w'.cell? ⟨g, off + k * 2, none⟩ = some (.int .i64 op) ∧ w'.cell? ⟨g, off + k * 2 + 1, none⟩ = some (.int .i64 a) ∧ w'.cell? ⟨g', off' + k * 2, none⟩ = some (.int .i64 op) ∧ w'.cell? ⟨g', off' + k * 2 + 1, none⟩ = some (.int .i64 a))
        (first | go_keep | exact ⟨(hbq.cell (p := ⟨g, off + k * 2, none⟩) hgw).trans c0, (hbq.cell (p := ⟨g, off + k * 2 + 1, none⟩) hgw).trans c1, (hbq.cell (p := ⟨g', off' + k * 2, none⟩) hgw').trans d0', (hbq.cell (p := ⟨g', off' + k * 2 + 1, none⟩) hgw').trans d1'⟩)
        (first | (go_at_call 192; refine HC.out.mono ?_; rintro e wq ⟨rfl, hbq⟩))
      have hbn : Below w.heap.size w wq := hbr.drew.trans (hbq.mono hbr.size)
      clear hbq hbr c0 c1 d0' d1'
      go_wp2_with fail
      go_roundw
      case rel => exact ⟨k + 1, by omega, by go_num, hbn⟩
      case measure => simp [intOf]; omega
    · have hkn : k = n' := by omega
      subst hkn
      go_wp2_with fail
      go_ret
      exact ⟨rfl, hbr⟩
theorem eqInsS_all (ts : List Ins) : EqR 171 (.row 2 (ts.flatMap Ins.pd)) := eqInsS_step fun t _ => eqIns_all t

set_option maxHeartbeats 1600000 in
theorem eqCore_step {name : ByteArray} {params : Int} {locals : Int} {result : Bool} {code : List Ins} (ih_code : EqR 171 (.row 2 (code.flatMap Ins.pd))) : EqC 132 (Core.pd ⟨name, params, locals, result, code⟩) := by
  intro B cs us w hB h h'
  obtain ⟨codeV, rfl, r_code⟩ := Core.open_ h
  obtain ⟨codeV', rfl, s_code⟩ := Core.open_ h'
  have R_code := Lib.hid r_code
  have S_code := Lib.hid s_code
  clear r_code s_code
  go_enter Try.func132, Try.ntmps132
  go_wp2_with fail
  obtain ⟨w0, hw0⟩ : ∃ w0, w0 = (w.alloc (.cells #[.string name, .int .i64 params, .int .i64 locals, .bool result, codeV] 85)).alloc (.cells #[.string name, .int .i64 params, .int .i64 locals, .bool result, codeV'] 85) := ⟨_, rfl⟩
  rw [← hw0]
  have bA : Blk w0 w.heap.size 85 #[.string name, .int .i64 params, .int .i64 locals, .bool result, codeV] := by rw [hw0]; exact (Blk.new w _ _).alloc _
  have bB : Blk w0 (w.heap.size + 1) 85 #[.string name, .int .i64 params, .int .i64 locals, .bool result, codeV'] := by rw [hw0]; have := Blk.new (w.alloc (.cells #[.string name, .int .i64 params, .int .i64 locals, .bool result, codeV] 85)) 85 #[.string name, .int .i64 params, .int .i64 locals, .bool result, codeV']; simpa using this
  have hB0 : Below w.heap.size w w0 := by rw [hw0]; exact ((Below.refl _ _).alloc (Nat.le_refl _) _).alloc (by simp) _
  clear hw0
  refine (ih_code B codeV codeV' _ (by have := hB0.size; omega) (R_code.out.below (hB0.mono hB)) (S_code.out.below (hB0.mono hB))).mono ?_
  rintro e w1 ⟨rfl, hb1⟩
  have hB1 := hB0.trans (hb1.mono hB0.size)
  replace bA := bA.step hb1
  replace bB := bB.step hb1
  go_wp2_with fail
  go_ret
  exact ⟨rfl, hB1⟩
theorem eqCore_all (t : Core) : EqC 132 (Core.pd t) := by obtain ⟨name, params, locals, result, code⟩ := t; exact eqCore_step (eqInsS_all code)

set_option maxHeartbeats 1600000 in
theorem eqImportS_step {ts : List Imp} (ih : ∀ t ∈ ts, EqC 131 (Imp.pd t)) : EqR 72 (.row 3 (ts.flatMap Imp.pd)) := by
  intro B v u w hB h h'
  obtain ⟨A, n, c, rfl, hnl, hm, hat⟩ := rep_row Imp.pd_length (by decide) h
  obtain ⟨A', n', c', rfl, hnl', _, hat'⟩ := rep_row Imp.pd_length (by decide) h'
  have hnn : n' = n := by omega
  subst hnn
  unfold maxLen at hm
  have HN := Lib.hid hnl
  have HI := Lib.hid ih
  clear ih
  clear h h' hnl hnl'
  go_enter Try.func72, Try.ntmps72
  go_wp2_with fail
  go_loopw [5] (fun i wr => ∃ k : Nat, k ≤ n' ∧ i = .int .i64 k ∧ Below w.heap.size w wr) (fun i _ => n' - (intOf i).toNat)
  case atStart => exact ⟨0, Nat.zero_le _, rfl, Below.refl _ _⟩
  case round =>
    obtain ⟨k, hk, rfl, hbr⟩ := hrel
    by_cases hlt : k < n'
    · obtain ⟨g, off, rfl, hg, hcell⟩ := hat (by omega)
      obtain ⟨g', off', rfl, hg', hcell'⟩ := hat' (by omega)
      obtain ⟨t, hx, hmem⟩ := at_lt HN.out hlt
      obtain ⟨name, params, result⟩ := t
      have c0 : wr.cell? ⟨g, off + k * 3, none⟩ = some (.string name) := cell_lit hbr (by omega) (hcell k 0 _ _ hx (by rw [Imp.pd_mk]; rfl))
      have c1 : wr.cell? ⟨g, off + k * 3 + 1, none⟩ = some (.int .i64 params) := cell_lit hbr (by omega) (hcell k 1 _ _ hx (by rw [Imp.pd_mk]; rfl))
      have c2 : wr.cell? ⟨g, off + k * 3 + 2, none⟩ = some (.bool result) := cell_lit hbr (by omega) (hcell k 2 _ _ hx (by rw [Imp.pd_mk]; rfl))
      have d0' : wr.cell? ⟨g', off' + k * 3, none⟩ = some (.string name) := cell_lit hbr (by omega) (hcell' k 0 _ _ hx (by rw [Imp.pd_mk]; rfl))
      have d1' : wr.cell? ⟨g', off' + k * 3 + 1, none⟩ = some (.int .i64 params) := cell_lit hbr (by omega) (hcell' k 1 _ _ hx (by rw [Imp.pd_mk]; rfl))
      have d2' : wr.cell? ⟨g', off' + k * 3 + 2, none⟩ = some (.bool result) := cell_lit hbr (by omega) (hcell' k 2 _ _ hx (by rw [Imp.pd_mk]; rfl))
      have hlt' : (k : Int) < (n' : Int) := by omega
      have hgw : g < wr.heap.size := by have := hbr.size; omega
      have hgw' : g' < wr.heap.size := by have := hbr.size; omega
      have HM := Lib.hid hmem
      have HBW := Lib.hid (Nat.le_trans hB hbr.size)
      clear hx hcell hcell' hmem
      go_wp2_with fail
      have HC := Lib.hid (HI.out _ HM.out B [.string name, .int .i64 params, .bool result] [.string name, .int .i64 params, .bool result] wr.drew HBW.out (Imp.close_) (Imp.close_))
      go_region_held3 (fun w' => w'.cell? ⟨g, off + k * 3, none⟩ = some (.string name) ∧ w'.cell? ⟨g, off + k * 3 + 1, none⟩ = some (.int .i64 params) ∧ w'.cell? ⟨g, off + k * 3 + 2, none⟩ = some (.bool result) ∧ w'.cell? ⟨g', off' + k * 3, none⟩ = some (.string name) ∧ w'.cell? ⟨g', off' + k * 3 + 1, none⟩ = some (.int .i64 params) ∧ w'.cell? ⟨g', off' + k * 3 + 2, none⟩ = some (.bool result))
        (first | go_keep | exact ⟨(hbq.cell (p := ⟨g, off + k * 3, none⟩) hgw).trans c0, (hbq.cell (p := ⟨g, off + k * 3 + 1, none⟩) hgw).trans c1, (hbq.cell (p := ⟨g, off + k * 3 + 2, none⟩) hgw).trans c2, (hbq.cell (p := ⟨g', off' + k * 3, none⟩) hgw').trans d0', (hbq.cell (p := ⟨g', off' + k * 3 + 1, none⟩) hgw').trans d1', (hbq.cell (p := ⟨g', off' + k * 3 + 2, none⟩) hgw').trans d2'⟩)
        (first | (go_at_call 131; refine HC.out.mono ?_; rintro e wq ⟨rfl, hbq⟩))
      have hbn : Below w.heap.size w wq := hbr.drew.trans (hbq.mono hbr.size)
      clear hbq hbr c0 c1 c2 d0' d1' d2'
      go_wp2_with fail
      go_roundw
      case rel => exact ⟨k + 1, by omega, by go_num, hbn⟩
      case measure => simp [intOf]; omega
    · have hkn : k = n' := by omega
      subst hkn
      go_wp2_with fail
      go_ret
      exact ⟨rfl, hbr⟩
theorem eqImportS_all (ts : List Imp) : EqR 72 (.row 3 (ts.flatMap Imp.pd)) := eqImportS_step fun t _ => eqImport_all t

set_option maxHeartbeats 1600000 in
theorem eqCoreS_step {ts : List Core} (ih : ∀ t ∈ ts, EqC 132 (Core.pd t)) : EqR 73 (.row 5 (ts.flatMap Core.pd)) := by
  intro B v u w hB h h'
  obtain ⟨A, n, c, rfl, hnl, hm, hat⟩ := rep_row Core.pd_length (by decide) h
  obtain ⟨A', n', c', rfl, hnl', _, hat'⟩ := rep_row Core.pd_length (by decide) h'
  have hnn : n' = n := by omega
  subst hnn
  unfold maxLen at hm
  have HN := Lib.hid hnl
  have HI := Lib.hid ih
  clear ih
  clear h h' hnl hnl'
  go_enter Try.func73, Try.ntmps73
  go_wp2_with fail
  go_loopw [5] (fun i wr => ∃ k : Nat, k ≤ n' ∧ i = .int .i64 k ∧ Below w.heap.size w wr) (fun i _ => n' - (intOf i).toNat)
  case atStart => exact ⟨0, Nat.zero_le _, rfl, Below.refl _ _⟩
  case round =>
    obtain ⟨k, hk, rfl, hbr⟩ := hrel
    by_cases hlt : k < n'
    · obtain ⟨g, off, rfl, hg, hcell⟩ := hat (by omega)
      obtain ⟨g', off', rfl, hg', hcell'⟩ := hat' (by omega)
      obtain ⟨t, hx, hmem⟩ := at_lt HN.out hlt
      obtain ⟨name, params, locals, result, code⟩ := t
      have c0 : wr.cell? ⟨g, off + k * 5, none⟩ = some (.string name) := cell_lit hbr (by omega) (hcell k 0 _ _ hx (by rw [Core.pd_mk]; rfl))
      have c1 : wr.cell? ⟨g, off + k * 5 + 1, none⟩ = some (.int .i64 params) := cell_lit hbr (by omega) (hcell k 1 _ _ hx (by rw [Core.pd_mk]; rfl))
      have c2 : wr.cell? ⟨g, off + k * 5 + 2, none⟩ = some (.int .i64 locals) := cell_lit hbr (by omega) (hcell k 2 _ _ hx (by rw [Core.pd_mk]; rfl))
      have c3 : wr.cell? ⟨g, off + k * 5 + 3, none⟩ = some (.bool result) := cell_lit hbr (by omega) (hcell k 3 _ _ hx (by rw [Core.pd_mk]; rfl))
      obtain ⟨codeV, c4, hr4⟩ : ∃ u, wr.cell? ⟨g, off + k * 5 + 4, none⟩ = some u ∧ Rep wr B (.row 2 (code.flatMap Ins.pd)) u := cell_rep hbr (by omega) hB (hcell k 4 _ _ hx (by rw [Core.pd_mk]; rfl))
      have HR4 := Lib.hid hr4
      clear hr4
      have d0' : wr.cell? ⟨g', off' + k * 5, none⟩ = some (.string name) := cell_lit hbr (by omega) (hcell' k 0 _ _ hx (by rw [Core.pd_mk]; rfl))
      have d1' : wr.cell? ⟨g', off' + k * 5 + 1, none⟩ = some (.int .i64 params) := cell_lit hbr (by omega) (hcell' k 1 _ _ hx (by rw [Core.pd_mk]; rfl))
      have d2' : wr.cell? ⟨g', off' + k * 5 + 2, none⟩ = some (.int .i64 locals) := cell_lit hbr (by omega) (hcell' k 2 _ _ hx (by rw [Core.pd_mk]; rfl))
      have d3' : wr.cell? ⟨g', off' + k * 5 + 3, none⟩ = some (.bool result) := cell_lit hbr (by omega) (hcell' k 3 _ _ hx (by rw [Core.pd_mk]; rfl))
      obtain ⟨codeV', d4', hr4'⟩ : ∃ u, wr.cell? ⟨g', off' + k * 5 + 4, none⟩ = some u ∧ Rep wr B (.row 2 (code.flatMap Ins.pd)) u := cell_rep hbr (by omega) hB (hcell' k 4 _ _ hx (by rw [Core.pd_mk]; rfl))
      have HQ4' := Lib.hid hr4'
      clear hr4'
      have hlt' : (k : Int) < (n' : Int) := by omega
      have hgw : g < wr.heap.size := by have := hbr.size; omega
      have hgw' : g' < wr.heap.size := by have := hbr.size; omega
      have HM := Lib.hid hmem
      have HBW := Lib.hid (Nat.le_trans hB hbr.size)
      clear hx hcell hcell' hmem
      go_wp2_with fail
      have HC := Lib.hid (HI.out _ HM.out B [.string name, .int .i64 params, .int .i64 locals, .bool result, codeV] [.string name, .int .i64 params, .int .i64 locals, .bool result, codeV'] wr.drew HBW.out (Core.close_ HR4.out.drew) (Core.close_ HQ4'.out.drew))
      go_region_held3 (fun w' => w'.cell? ⟨g, off + k * 5, none⟩ = some (.string name) ∧ w'.cell? ⟨g, off + k * 5 + 1, none⟩ = some (.int .i64 params) ∧ w'.cell? ⟨g, off + k * 5 + 2, none⟩ = some (.int .i64 locals) ∧ w'.cell? ⟨g, off + k * 5 + 3, none⟩ = some (.bool result) ∧ w'.cell? ⟨g, off + k * 5 + 4, none⟩ = some (codeV) ∧ w'.cell? ⟨g', off' + k * 5, none⟩ = some (.string name) ∧ w'.cell? ⟨g', off' + k * 5 + 1, none⟩ = some (.int .i64 params) ∧ w'.cell? ⟨g', off' + k * 5 + 2, none⟩ = some (.int .i64 locals) ∧ w'.cell? ⟨g', off' + k * 5 + 3, none⟩ = some (.bool result) ∧ w'.cell? ⟨g', off' + k * 5 + 4, none⟩ = some (codeV'))
        (first | go_keep | exact ⟨(hbq.cell (p := ⟨g, off + k * 5, none⟩) hgw).trans c0, (hbq.cell (p := ⟨g, off + k * 5 + 1, none⟩) hgw).trans c1, (hbq.cell (p := ⟨g, off + k * 5 + 2, none⟩) hgw).trans c2, (hbq.cell (p := ⟨g, off + k * 5 + 3, none⟩) hgw).trans c3, (hbq.cell (p := ⟨g, off + k * 5 + 4, none⟩) hgw).trans c4, (hbq.cell (p := ⟨g', off' + k * 5, none⟩) hgw').trans d0', (hbq.cell (p := ⟨g', off' + k * 5 + 1, none⟩) hgw').trans d1', (hbq.cell (p := ⟨g', off' + k * 5 + 2, none⟩) hgw').trans d2', (hbq.cell (p := ⟨g', off' + k * 5 + 3, none⟩) hgw').trans d3', (hbq.cell (p := ⟨g', off' + k * 5 + 4, none⟩) hgw').trans d4'⟩)
        (first | (go_at_call 132; refine HC.out.mono ?_; rintro e wq ⟨rfl, hbq⟩))
      have hbn : Below w.heap.size w wq := hbr.drew.trans (hbq.mono hbr.size)
      clear hbq hbr c0 c1 c2 c3 c4 d0' d1' d2' d3' d4'
      go_wp2_with fail
      go_roundw
      case rel => exact ⟨k + 1, by omega, by go_num, hbn⟩
      case measure => simp [intOf]; omega
    · have hkn : k = n' := by omega
      subst hkn
      go_wp2_with fail
      go_ret
      exact ⟨rfl, hbr⟩
theorem eqCoreS_all (ts : List Core) : EqR 73 (.row 5 (ts.flatMap Core.pd)) := eqCoreS_step fun t _ => eqCore_all t

set_option maxHeartbeats 1600000 in
theorem eqModule_step {pages : Int} {imports : List Imp} {cores : List Core} (ih_imports : EqR 72 (.row 3 (imports.flatMap Imp.pd))) (ih_cores : EqR 73 (.row 5 (cores.flatMap Core.pd))) : EqC 21 (Mod.pd ⟨pages, imports, cores⟩) := by
  intro B cs us w hB h h'
  obtain ⟨importsV, coresV, rfl, r_imports, r_cores⟩ := Mod.open_ h
  obtain ⟨importsV', coresV', rfl, s_imports, s_cores⟩ := Mod.open_ h'
  have R_imports := Lib.hid r_imports
  have S_imports := Lib.hid s_imports
  clear r_imports s_imports
  have R_cores := Lib.hid r_cores
  have S_cores := Lib.hid s_cores
  clear r_cores s_cores
  go_enter Try.func21, Try.ntmps21
  go_wp2_with fail
  obtain ⟨w0, hw0⟩ : ∃ w0, w0 = (w.alloc (.cells #[.int .i64 pages, importsV, coresV] 31)).alloc (.cells #[.int .i64 pages, importsV', coresV'] 31) := ⟨_, rfl⟩
  rw [← hw0]
  have bA : Blk w0 w.heap.size 31 #[.int .i64 pages, importsV, coresV] := by rw [hw0]; exact (Blk.new w _ _).alloc _
  have bB : Blk w0 (w.heap.size + 1) 31 #[.int .i64 pages, importsV', coresV'] := by rw [hw0]; have := Blk.new (w.alloc (.cells #[.int .i64 pages, importsV, coresV] 31)) 31 #[.int .i64 pages, importsV', coresV']; simpa using this
  have hB0 : Below w.heap.size w w0 := by rw [hw0]; exact ((Below.refl _ _).alloc (Nat.le_refl _) _).alloc (by simp) _
  clear hw0
  refine (ih_imports B importsV importsV' _ (by have := hB0.size; omega) (R_imports.out.below (hB0.mono hB)) (S_imports.out.below (hB0.mono hB))).mono ?_
  rintro e w1 ⟨rfl, hb1⟩
  have hB1 := hB0.trans (hb1.mono hB0.size)
  replace bA := bA.step hb1
  replace bB := bB.step hb1
  have a1_2 : w1.cell? ⟨w.heap.size, 2, none⟩ = some (coresV) := bA.cell 2
  have b1_2 : w1.cell? ⟨w.heap.size + 1, 2, none⟩ = some (coresV') := bB.cell 2
  go_wp2_with fail
  refine (ih_cores B coresV coresV' _ (by have := hB1.size; omega) (R_cores.out.below (hB1.mono hB)) (S_cores.out.below (hB1.mono hB))).mono ?_
  rintro e w2 ⟨rfl, hb2⟩
  have hB2 := hB1.trans (hb2.mono hB1.size)
  replace bA := bA.step hb2
  replace bB := bB.step hb2
  go_wp2_with fail
  go_ret
  exact ⟨rfl, hB2⟩
theorem eqModule_all (t : Mod) : EqC 21 (Mod.pd t) := by obtain ⟨pages, imports, cores⟩ := t; exact eqModule_step (eqImportS_all imports) (eqCoreS_all cores)






end Go.Proofs.Ytmmeaakhikcigaa
