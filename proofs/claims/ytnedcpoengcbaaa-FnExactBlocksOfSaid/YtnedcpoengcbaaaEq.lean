/-
  The laws' own helpers 'eq..' over the program's types (by program: tygen2.py, tyfam.py).
-/
import Derived.Test.YtnedcpoengcbaaaFam
import Derived.Test.YtnedcpoengcbaaaTy
namespace Go.Proofs.Ytnedcpoengcbaaa
open Go.RowKit
set_option linter.unusedVariables false
set_option linter.unusedSimpArgs false
set_option linter.unnecessarySimpa false
set_option maxRecDepth 100000


set_option maxHeartbeats 1600000 in
theorem eqStringS_step {ts : List ByteArray} : EqR 95 (.row 1 (ts.flatMap strC)) := by
  intro B v u w hB h h'
  obtain ⟨A, n, c, rfl, hnl, hm, hat⟩ := rep_row strC_length (by decide) h
  obtain ⟨A', n', c', rfl, hnl', _, hat'⟩ := rep_row strC_length (by decide) h'
  have hnn : n' = n := by omega
  subst hnn
  unfold maxLen at hm
  have HN := Lib.hid hnl
  clear h h' hnl hnl'
  go_enter Try.func95, Try.ntmps95
  go_wp2_with fail
  go_loopw [5] (fun i wr => ∃ k : Nat, k ≤ n' ∧ i = .int .i64 k ∧ Below w.heap.size w wr) (fun i _ => n' - (intOf i).toNat)
  case atStart => exact ⟨0, Nat.zero_le _, rfl, Below.refl _ _⟩
  case round =>
    obtain ⟨k, hk, rfl, hbr⟩ := hrel
    by_cases hlt : k < n'
    · obtain ⟨g, off, rfl, hg, hcell⟩ := hat (by omega)
      obtain ⟨g', off', rfl, hg', hcell'⟩ := hat' (by omega)
      obtain ⟨t, hx, hmem⟩ := at_lt HN.out hlt
      have c0 : wr.cell? ⟨g, off + k, none⟩ = some (.string t) := cell_lit hbr (by omega) (by have := hcell k 0 _ _ hx rfl; simpa using this)
      have d0' : wr.cell? ⟨g', off' + k, none⟩ = some (.string t) := cell_lit hbr (by omega) (by have := hcell' k 0 _ _ hx rfl; simpa using this)
      have hlt' : (k : Int) < (n' : Int) := by omega
      have hgw : g < wr.heap.size := by have := hbr.size; omega
      have hgw' : g' < wr.heap.size := by have := hbr.size; omega
      clear hx hcell hcell' hmem
      go_wp2_with fail
      go_quiet (fail)
      have hbn := below_drewN hbr
      clear hbr c0 d0'
      go_wp2_with fail
      go_roundw
      case rel => exact ⟨k + 1, by omega, by go_num, hbn _⟩
      case measure => simp [intOf]; omega
    · have hkn : k = n' := by omega
      subst hkn
      go_wp2_with fail
      go_ret
      exact ⟨rfl, hbr⟩
theorem eqStringS_all (ts : List ByteArray) : EqR 95 (.row 1 (ts.flatMap strC)) := eqStringS_step




set_option maxHeartbeats 1600000 in
theorem eqTypeS_step {ts : List Ty} (ih : ∀ t ∈ ts, EqC 70 (Ty.pd t)) : EqR 44 (.row 4 (ts.flatMap Ty.pd)) := by
  intro B v u w hB h h'
  obtain ⟨A, n, c, rfl, hnl, hm, hat⟩ := rep_row Ty.pd_length (by decide) h
  obtain ⟨A', n', c', rfl, hnl', _, hat'⟩ := rep_row Ty.pd_length (by decide) h'
  have hnn : n' = n := by omega
  subst hnn
  unfold maxLen at hm
  have HN := Lib.hid hnl
  have HI := Lib.hid ih
  clear ih
  clear h h' hnl hnl'
  go_enter Try.func44, Try.ntmps44
  go_wp2_with fail
  go_loopw [5] (fun i wr => ∃ k : Nat, k ≤ n' ∧ i = .int .i64 k ∧ Below w.heap.size w wr) (fun i _ => n' - (intOf i).toNat)
  case atStart => exact ⟨0, Nat.zero_le _, rfl, Below.refl _ _⟩
  case round =>
    obtain ⟨k, hk, rfl, hbr⟩ := hrel
    by_cases hlt : k < n'
    · obtain ⟨g, off, rfl, hg, hcell⟩ := hat (by omega)
      obtain ⟨g', off', rfl, hg', hcell'⟩ := hat' (by omega)
      obtain ⟨t, hx, hmem⟩ := at_lt HN.out hlt
      obtain ⟨kind, name, labels, kids⟩ := t
      have c0 : wr.cell? ⟨g, off + k * 4, none⟩ = some (.int .i64 kind) := cell_lit hbr (by omega) (hcell k 0 _ _ hx (by rw [Ty.pd_mk]; rfl))
      have c1 : wr.cell? ⟨g, off + k * 4 + 1, none⟩ = some (.string name) := cell_lit hbr (by omega) (hcell k 1 _ _ hx (by rw [Ty.pd_mk]; rfl))
      obtain ⟨labelsV, c2, hr2⟩ : ∃ u, wr.cell? ⟨g, off + k * 4 + 2, none⟩ = some u ∧ Rep wr B (.row 1 (labels.flatMap strC)) u := cell_rep hbr (by omega) hB (hcell k 2 _ _ hx (by rw [Ty.pd_mk]; rfl))
      have HR2 := Lib.hid hr2
      clear hr2
      obtain ⟨kidsV, c3, hr3⟩ : ∃ u, wr.cell? ⟨g, off + k * 4 + 3, none⟩ = some u ∧ Rep wr B (.row 4 (kids.flatMap Ty.pd)) u := cell_rep hbr (by omega) hB (hcell k 3 _ _ hx (by rw [Ty.pd_mk]; rfl))
      have HR3 := Lib.hid hr3
      clear hr3
      have d0' : wr.cell? ⟨g', off' + k * 4, none⟩ = some (.int .i64 kind) := cell_lit hbr (by omega) (hcell' k 0 _ _ hx (by rw [Ty.pd_mk]; rfl))
      have d1' : wr.cell? ⟨g', off' + k * 4 + 1, none⟩ = some (.string name) := cell_lit hbr (by omega) (hcell' k 1 _ _ hx (by rw [Ty.pd_mk]; rfl))
      obtain ⟨labelsV', d2', hr2'⟩ : ∃ u, wr.cell? ⟨g', off' + k * 4 + 2, none⟩ = some u ∧ Rep wr B (.row 1 (labels.flatMap strC)) u := cell_rep hbr (by omega) hB (hcell' k 2 _ _ hx (by rw [Ty.pd_mk]; rfl))
      have HQ2' := Lib.hid hr2'
      clear hr2'
      obtain ⟨kidsV', d3', hr3'⟩ : ∃ u, wr.cell? ⟨g', off' + k * 4 + 3, none⟩ = some u ∧ Rep wr B (.row 4 (kids.flatMap Ty.pd)) u := cell_rep hbr (by omega) hB (hcell' k 3 _ _ hx (by rw [Ty.pd_mk]; rfl))
      have HQ3' := Lib.hid hr3'
      clear hr3'
      have hlt' : (k : Int) < (n' : Int) := by omega
      have hgw : g < wr.heap.size := by have := hbr.size; omega
      have hgw' : g' < wr.heap.size := by have := hbr.size; omega
      have HM := Lib.hid hmem
      have HBW := Lib.hid (Nat.le_trans hB hbr.size)
      clear hx hcell hcell' hmem
      go_wp2_with fail
      have HC := Lib.hid (HI.out _ HM.out B [.int .i64 kind, .string name, labelsV, kidsV] [.int .i64 kind, .string name, labelsV', kidsV'] wr.drew HBW.out (Ty.close_ HR2.out.drew HR3.out.drew) (Ty.close_ HQ2'.out.drew HQ3'.out.drew))
      go_region_held3 (fun w' => w'.cell? ⟨g, off + k * 4, none⟩ = some (.int .i64 kind) ∧ w'.cell? ⟨g, off + k * 4 + 1, none⟩ = some (.string name) ∧ w'.cell? ⟨g, off + k * 4 + 2, none⟩ = some (labelsV) ∧ w'.cell? ⟨g, off + k * 4 + 3, none⟩ = some (kidsV) ∧ w'.cell? ⟨g', off' + k * 4, none⟩ = some (.int .i64 kind) ∧ w'.cell? ⟨g', off' + k * 4 + 1, none⟩ = some (.string name) ∧ w'.cell? ⟨g', off' + k * 4 + 2, none⟩ = some (labelsV') ∧ w'.cell? ⟨g', off' + k * 4 + 3, none⟩ = some (kidsV'))
        (first | go_keep | exact ⟨(hbq.cell (p := ⟨g, off + k * 4, none⟩) hgw).trans c0, (hbq.cell (p := ⟨g, off + k * 4 + 1, none⟩) hgw).trans c1, (hbq.cell (p := ⟨g, off + k * 4 + 2, none⟩) hgw).trans c2, (hbq.cell (p := ⟨g, off + k * 4 + 3, none⟩) hgw).trans c3, (hbq.cell (p := ⟨g', off' + k * 4, none⟩) hgw').trans d0', (hbq.cell (p := ⟨g', off' + k * 4 + 1, none⟩) hgw').trans d1', (hbq.cell (p := ⟨g', off' + k * 4 + 2, none⟩) hgw').trans d2', (hbq.cell (p := ⟨g', off' + k * 4 + 3, none⟩) hgw').trans d3'⟩)
        (first | (go_at_call 70; refine HC.out.mono ?_; rintro e wq ⟨rfl, hbq⟩))
      have hbn : Below w.heap.size w wq := hbr.drew.trans (hbq.mono hbr.size)
      clear hbq hbr c0 c1 c2 c3 d0' d1' d2' d3'
      go_wp2_with fail
      go_roundw
      case rel => exact ⟨k + 1, by omega, by go_num, hbn⟩
      case measure => simp [intOf]; omega
    · have hkn : k = n' := by omega
      subst hkn
      go_wp2_with fail
      go_ret
      exact ⟨rfl, hbr⟩
set_option maxHeartbeats 1600000 in
theorem eqType_step {kind : Int} {name : ByteArray} {labels : List ByteArray} {kids : List Ty} (ih_labels : EqR 95 (.row 1 (labels.flatMap strC))) (ih_kids : EqR 44 (.row 4 (kids.flatMap Ty.pd))) : EqC 70 (Ty.pd ⟨kind, name, labels, kids⟩) := by
  intro B cs us w hB h h'
  obtain ⟨labelsV, kidsV, rfl, r_labels, r_kids⟩ := Ty.open_ h
  obtain ⟨labelsV', kidsV', rfl, s_labels, s_kids⟩ := Ty.open_ h'
  have R_labels := Lib.hid r_labels
  have S_labels := Lib.hid s_labels
  clear r_labels s_labels
  have R_kids := Lib.hid r_kids
  have S_kids := Lib.hid s_kids
  clear r_kids s_kids
  go_enter Try.func70, Try.ntmps70
  go_wp2_with fail
  obtain ⟨w0, hw0⟩ : ∃ w0, w0 = (w.alloc (.cells #[.int .i64 kind, .string name, labelsV, kidsV] 76)).alloc (.cells #[.int .i64 kind, .string name, labelsV', kidsV'] 76) := ⟨_, rfl⟩
  rw [← hw0]
  have bA : Blk w0 w.heap.size 76 #[.int .i64 kind, .string name, labelsV, kidsV] := by rw [hw0]; exact (Blk.new w _ _).alloc _
  have bB : Blk w0 (w.heap.size + 1) 76 #[.int .i64 kind, .string name, labelsV', kidsV'] := by rw [hw0]; have := Blk.new (w.alloc (.cells #[.int .i64 kind, .string name, labelsV, kidsV] 76)) 76 #[.int .i64 kind, .string name, labelsV', kidsV']; simpa using this
  have hB0 : Below w.heap.size w w0 := by rw [hw0]; exact ((Below.refl _ _).alloc (Nat.le_refl _) _).alloc (by simp) _
  clear hw0
  refine (ih_labels B labelsV labelsV' _ (by have := hB0.size; omega) (R_labels.out.below (hB0.mono hB)) (S_labels.out.below (hB0.mono hB))).mono ?_
  rintro e w1 ⟨rfl, hb1⟩
  have hB1 := hB0.trans (hb1.mono hB0.size)
  replace bA := bA.step hb1
  replace bB := bB.step hb1
  have a1_3 : w1.cell? ⟨w.heap.size, 3, none⟩ = some (kidsV) := bA.cell 3
  have b1_3 : w1.cell? ⟨w.heap.size + 1, 3, none⟩ = some (kidsV') := bB.cell 3
  go_wp2_with fail
  refine (ih_kids B kidsV kidsV' _ (by have := hB1.size; omega) (R_kids.out.below (hB1.mono hB)) (S_kids.out.below (hB1.mono hB))).mono ?_
  rintro e w2 ⟨rfl, hb2⟩
  have hB2 := hB1.trans (hb2.mono hB1.size)
  replace bA := bA.step hb2
  replace bB := bB.step hb2
  go_wp2_with fail
  go_ret
  exact ⟨rfl, hB2⟩
mutual
theorem eqType_all : ∀ t : Ty, EqC 70 (Ty.pd t)
  | .mk kind name labels kids => eqType_step eqStringS_step (eqTypeS_step (eqType_mem kids))
theorem eqType_mem : ∀ ts : List Ty, ∀ t ∈ ts, EqC 70 (Ty.pd t)
  | [], x, hx => absurd hx (by simp)
  | t :: r, x, hx => (List.mem_cons.1 hx).elim (fun e => e ▸ eqType_all t) (fun h => eqType_mem r x h)
end
theorem eqTypeS_all (ts : List Ty) : EqR 44 (.row 4 (ts.flatMap Ty.pd)) := eqTypeS_step fun t _ => eqType_all t









set_option maxHeartbeats 1600000 in
theorem eqIns_step {op : Int} {a : Int} : EqC 87 (Ins.pd ⟨op, a⟩) := by
  intro B cs us w hB h h'
  obtain rfl := Ins.open_ h
  obtain rfl := Ins.open_ h'
  go_enter Try.func87, Try.ntmps87
  go_wp2_with fail
  go_ret
  exact ⟨rfl, ((Below.refl _ _).alloc (Nat.le_refl _) _).alloc (by simp) _⟩
theorem eqIns_all (t : Ins) : EqC 87 (Ins.pd t) := by obtain ⟨op, a⟩ := t; exact eqIns_step 

set_option maxHeartbeats 1600000 in
theorem eqImport_step {name : ByteArray} {params : Int} {result : Bool} : EqC 59 (Imp.pd ⟨name, params, result⟩) := by
  intro B cs us w hB h h'
  obtain rfl := Imp.open_ h
  obtain rfl := Imp.open_ h'
  go_enter Try.func59, Try.ntmps59
  go_wp2_with fail
  go_ret
  exact ⟨rfl, ((Below.refl _ _).alloc (Nat.le_refl _) _).alloc (by simp) _⟩
theorem eqImport_all (t : Imp) : EqC 59 (Imp.pd t) := by obtain ⟨name, params, result⟩ := t; exact eqImport_step 

set_option maxHeartbeats 1600000 in
theorem eqInsS_step {ts : List Ins} (ih : ∀ t ∈ ts, EqC 87 (Ins.pd t)) : EqR 54 (.row 2 (ts.flatMap Ins.pd)) := by
  intro B v u w hB h h'
  obtain ⟨A, n, c, rfl, hnl, hm, hat⟩ := rep_row Ins.pd_length (by decide) h
  obtain ⟨A', n', c', rfl, hnl', _, hat'⟩ := rep_row Ins.pd_length (by decide) h'
  have hnn : n' = n := by omega
  subst hnn
  unfold maxLen at hm
  have HN := Lib.hid hnl
  have HI := Lib.hid ih
  clear ih
  clear h h' hnl hnl'
  go_enter Try.func54, Try.ntmps54
  go_wp2_with fail
  go_loopw [5] (fun i wr => ∃ k : Nat, k ≤ n' ∧ i = .int .i64 k ∧ Below w.heap.size w wr) (fun i _ => n' - (intOf i).toNat)
  case atStart => exact ⟨0, Nat.zero_le _, rfl, Below.refl _ _⟩
  case round =>
    obtain ⟨k, hk, rfl, hbr⟩ := hrel
    by_cases hlt : k < n'
    · obtain ⟨g, off, rfl, hg, hcell⟩ := hat (by omega)
      obtain ⟨g', off', rfl, hg', hcell'⟩ := hat' (by omega)
      obtain ⟨t, hx, hmem⟩ := at_lt HN.out hlt
      obtain ⟨op, a⟩ := t
      have c0 : wr.cell? ⟨g, off + k * 2, none⟩ = some (.int .i64 op) := cell_lit hbr (by omega) (hcell k 0 _ _ hx (by rw [Ins.pd_mk]; rfl))
      have c1 : wr.cell? ⟨g, off + k * 2 + 1, none⟩ = some (.int .i64 a) := cell_lit hbr (by omega) (hcell k 1 _ _ hx (by rw [Ins.pd_mk]; rfl))
      have d0' : wr.cell? ⟨g', off' + k * 2, none⟩ = some (.int .i64 op) := cell_lit hbr (by omega) (hcell' k 0 _ _ hx (by rw [Ins.pd_mk]; rfl))
      have d1' : wr.cell? ⟨g', off' + k * 2 + 1, none⟩ = some (.int .i64 a) := cell_lit hbr (by omega) (hcell' k 1 _ _ hx (by rw [Ins.pd_mk]; rfl))
      have hlt' : (k : Int) < (n' : Int) := by omega
      have hgw : g < wr.heap.size := by have := hbr.size; omega
      have hgw' : g' < wr.heap.size := by have := hbr.size; omega
      have HM := Lib.hid hmem
      have HBW := Lib.hid (Nat.le_trans hB hbr.size)
      clear hx hcell hcell' hmem
      go_wp2_with fail
      have HC := Lib.hid (HI.out _ HM.out B [.int .i64 op, .int .i64 a] [.int .i64 op, .int .i64 a] wr.drew HBW.out (Ins.close_) (Ins.close_))
      go_region_held3 (fun w' => w'.cell? ⟨g, off + k * 2, none⟩ = some (.int .i64 op) ∧ w'.cell? ⟨g, off + k * 2 + 1, none⟩ = some (.int .i64 a) ∧ w'.cell? ⟨g', off' + k * 2, none⟩ = some (.int .i64 op) ∧ w'.cell? ⟨g', off' + k * 2 + 1, none⟩ = some (.int .i64 a))
        (first | go_keep | exact ⟨(hbq.cell (p := ⟨g, off + k * 2, none⟩) hgw).trans c0, (hbq.cell (p := ⟨g, off + k * 2 + 1, none⟩) hgw).trans c1, (hbq.cell (p := ⟨g', off' + k * 2, none⟩) hgw').trans d0', (hbq.cell (p := ⟨g', off' + k * 2 + 1, none⟩) hgw').trans d1'⟩)
        (first | (go_at_call 87; refine HC.out.mono ?_; rintro e wq ⟨rfl, hbq⟩))
      have hbn : Below w.heap.size w wq := hbr.drew.trans (hbq.mono hbr.size)
      clear hbq hbr c0 c1 d0' d1'
      go_wp2_with fail
      go_roundw
      case rel => exact ⟨k + 1, by omega, by go_num, hbn⟩
      case measure => simp [intOf]; omega
    · have hkn : k = n' := by omega
      subst hkn
      go_wp2_with fail
      go_ret
      exact ⟨rfl, hbr⟩
theorem eqInsS_all (ts : List Ins) : EqR 54 (.row 2 (ts.flatMap Ins.pd)) := eqInsS_step fun t _ => eqIns_all t

set_option maxHeartbeats 1600000 in
theorem eqCore_step {name : ByteArray} {params : Int} {locals : Int} {result : Bool} {code : List Ins} (ih_code : EqR 54 (.row 2 (code.flatMap Ins.pd))) : EqC 21 (Core.pd ⟨name, params, locals, result, code⟩) := by
  intro B cs us w hB h h'
  obtain ⟨codeV, rfl, r_code⟩ := Core.open_ h
  obtain ⟨codeV', rfl, s_code⟩ := Core.open_ h'
  have R_code := Lib.hid r_code
  have S_code := Lib.hid s_code
  clear r_code s_code
  go_enter Try.func21, Try.ntmps21
  go_wp2_with fail
  obtain ⟨w0, hw0⟩ : ∃ w0, w0 = (w.alloc (.cells #[.string name, .int .i64 params, .int .i64 locals, .bool result, codeV] 55)).alloc (.cells #[.string name, .int .i64 params, .int .i64 locals, .bool result, codeV'] 55) := ⟨_, rfl⟩
  rw [← hw0]
  have bA : Blk w0 w.heap.size 55 #[.string name, .int .i64 params, .int .i64 locals, .bool result, codeV] := by rw [hw0]; exact (Blk.new w _ _).alloc _
  have bB : Blk w0 (w.heap.size + 1) 55 #[.string name, .int .i64 params, .int .i64 locals, .bool result, codeV'] := by rw [hw0]; have := Blk.new (w.alloc (.cells #[.string name, .int .i64 params, .int .i64 locals, .bool result, codeV] 55)) 55 #[.string name, .int .i64 params, .int .i64 locals, .bool result, codeV']; simpa using this
  have hB0 : Below w.heap.size w w0 := by rw [hw0]; exact ((Below.refl _ _).alloc (Nat.le_refl _) _).alloc (by simp) _
  clear hw0
  refine (ih_code B codeV codeV' _ (by have := hB0.size; omega) (R_code.out.below (hB0.mono hB)) (S_code.out.below (hB0.mono hB))).mono ?_
  rintro e w1 ⟨rfl, hb1⟩
  have hB1 := hB0.trans (hb1.mono hB0.size)
  replace bA := bA.step hb1
  replace bB := bB.step hb1
  go_wp2_with fail
  go_ret
  exact ⟨rfl, hB1⟩
theorem eqCore_all (t : Core) : EqC 21 (Core.pd t) := by obtain ⟨name, params, locals, result, code⟩ := t; exact eqCore_step (eqInsS_all code)

set_option maxHeartbeats 1600000 in
theorem eqImportS_step {ts : List Imp} (ih : ∀ t ∈ ts, EqC 59 (Imp.pd t)) : EqR 33 (.row 3 (ts.flatMap Imp.pd)) := by
  intro B v u w hB h h'
  obtain ⟨A, n, c, rfl, hnl, hm, hat⟩ := rep_row Imp.pd_length (by decide) h
  obtain ⟨A', n', c', rfl, hnl', _, hat'⟩ := rep_row Imp.pd_length (by decide) h'
  have hnn : n' = n := by omega
  subst hnn
  unfold maxLen at hm
  have HN := Lib.hid hnl
  have HI := Lib.hid ih
  clear ih
  clear h h' hnl hnl'
  go_enter Try.func33, Try.ntmps33
  go_wp2_with fail
  go_loopw [5] (fun i wr => ∃ k : Nat, k ≤ n' ∧ i = .int .i64 k ∧ Below w.heap.size w wr) (fun i _ => n' - (intOf i).toNat)
  case atStart => exact ⟨0, Nat.zero_le _, rfl, Below.refl _ _⟩
  case round =>
    obtain ⟨k, hk, rfl, hbr⟩ := hrel
    by_cases hlt : k < n'
    · obtain ⟨g, off, rfl, hg, hcell⟩ := hat (by omega)
      obtain ⟨g', off', rfl, hg', hcell'⟩ := hat' (by omega)
      obtain ⟨t, hx, hmem⟩ := at_lt HN.out hlt
      obtain ⟨name, params, result⟩ := t
      have c0 : wr.cell? ⟨g, off + k * 3, none⟩ = some (.string name) := cell_lit hbr (by omega) (hcell k 0 _ _ hx (by rw [Imp.pd_mk]; rfl))
      have c1 : wr.cell? ⟨g, off + k * 3 + 1, none⟩ = some (.int .i64 params) := cell_lit hbr (by omega) (hcell k 1 _ _ hx (by rw [Imp.pd_mk]; rfl))
      have c2 : wr.cell? ⟨g, off + k * 3 + 2, none⟩ = some (.bool result) := cell_lit hbr (by omega) (hcell k 2 _ _ hx (by rw [Imp.pd_mk]; rfl))
      have d0' : wr.cell? ⟨g', off' + k * 3, none⟩ = some (.string name) := cell_lit hbr (by omega) (hcell' k 0 _ _ hx (by rw [Imp.pd_mk]; rfl))
      have d1' : wr.cell? ⟨g', off' + k * 3 + 1, none⟩ = some (.int .i64 params) := cell_lit hbr (by omega) (hcell' k 1 _ _ hx (by rw [Imp.pd_mk]; rfl))
      have d2' : wr.cell? ⟨g', off' + k * 3 + 2, none⟩ = some (.bool result) := cell_lit hbr (by omega) (hcell' k 2 _ _ hx (by rw [Imp.pd_mk]; rfl))
      have hlt' : (k : Int) < (n' : Int) := by omega
      have hgw : g < wr.heap.size := by have := hbr.size; omega
      have hgw' : g' < wr.heap.size := by have := hbr.size; omega
      have HM := Lib.hid hmem
      have HBW := Lib.hid (Nat.le_trans hB hbr.size)
      clear hx hcell hcell' hmem
      go_wp2_with fail
      have HC := Lib.hid (HI.out _ HM.out B [.string name, .int .i64 params, .bool result] [.string name, .int .i64 params, .bool result] wr.drew HBW.out (Imp.close_) (Imp.close_))
      go_region_held3 (fun w' => w'.cell? ⟨g, off + k * 3, none⟩ = some (.string name) ∧ w'.cell? ⟨g, off + k * 3 + 1, none⟩ = some (.int .i64 params) ∧ w'.cell? ⟨g, off + k * 3 + 2, none⟩ = some (.bool result) ∧ w'.cell? ⟨g', off' + k * 3, none⟩ = some (.string name) ∧ w'.cell? ⟨g', off' + k * 3 + 1, none⟩ = some (.int .i64 params) ∧ w'.cell? ⟨g', off' + k * 3 + 2, none⟩ = some (.bool result))
        (first | go_keep | exact ⟨(hbq.cell (p := ⟨g, off + k * 3, none⟩) hgw).trans c0, (hbq.cell (p := ⟨g, off + k * 3 + 1, none⟩) hgw).trans c1, (hbq.cell (p := ⟨g, off + k * 3 + 2, none⟩) hgw).trans c2, (hbq.cell (p := ⟨g', off' + k * 3, none⟩) hgw').trans d0', (hbq.cell (p := ⟨g', off' + k * 3 + 1, none⟩) hgw').trans d1', (hbq.cell (p := ⟨g', off' + k * 3 + 2, none⟩) hgw').trans d2'⟩)
        (first | (go_at_call 59; refine HC.out.mono ?_; rintro e wq ⟨rfl, hbq⟩))
      have hbn : Below w.heap.size w wq := hbr.drew.trans (hbq.mono hbr.size)
      clear hbq hbr c0 c1 c2 d0' d1' d2'
      go_wp2_with fail
      go_roundw
      case rel => exact ⟨k + 1, by omega, by go_num, hbn⟩
      case measure => simp [intOf]; omega
    · have hkn : k = n' := by omega
      subst hkn
      go_wp2_with fail
      go_ret
      exact ⟨rfl, hbr⟩
theorem eqImportS_all (ts : List Imp) : EqR 33 (.row 3 (ts.flatMap Imp.pd)) := eqImportS_step fun t _ => eqImport_all t

set_option maxHeartbeats 1600000 in
theorem eqCoreS_step {ts : List Core} (ih : ∀ t ∈ ts, EqC 21 (Core.pd t)) : EqR 34 (.row 5 (ts.flatMap Core.pd)) := by
  intro B v u w hB h h'
  obtain ⟨A, n, c, rfl, hnl, hm, hat⟩ := rep_row Core.pd_length (by decide) h
  obtain ⟨A', n', c', rfl, hnl', _, hat'⟩ := rep_row Core.pd_length (by decide) h'
  have hnn : n' = n := by omega
  subst hnn
  unfold maxLen at hm
  have HN := Lib.hid hnl
  have HI := Lib.hid ih
  clear ih
  clear h h' hnl hnl'
  go_enter Try.func34, Try.ntmps34
  go_wp2_with fail
  go_loopw [5] (fun i wr => ∃ k : Nat, k ≤ n' ∧ i = .int .i64 k ∧ Below w.heap.size w wr) (fun i _ => n' - (intOf i).toNat)
  case atStart => exact ⟨0, Nat.zero_le _, rfl, Below.refl _ _⟩
  case round =>
    obtain ⟨k, hk, rfl, hbr⟩ := hrel
    by_cases hlt : k < n'
    · obtain ⟨g, off, rfl, hg, hcell⟩ := hat (by omega)
      obtain ⟨g', off', rfl, hg', hcell'⟩ := hat' (by omega)
      obtain ⟨t, hx, hmem⟩ := at_lt HN.out hlt
      obtain ⟨name, params, locals, result, code⟩ := t
      have c0 : wr.cell? ⟨g, off + k * 5, none⟩ = some (.string name) := cell_lit hbr (by omega) (hcell k 0 _ _ hx (by rw [Core.pd_mk]; rfl))
      have c1 : wr.cell? ⟨g, off + k * 5 + 1, none⟩ = some (.int .i64 params) := cell_lit hbr (by omega) (hcell k 1 _ _ hx (by rw [Core.pd_mk]; rfl))
      have c2 : wr.cell? ⟨g, off + k * 5 + 2, none⟩ = some (.int .i64 locals) := cell_lit hbr (by omega) (hcell k 2 _ _ hx (by rw [Core.pd_mk]; rfl))
      have c3 : wr.cell? ⟨g, off + k * 5 + 3, none⟩ = some (.bool result) := cell_lit hbr (by omega) (hcell k 3 _ _ hx (by rw [Core.pd_mk]; rfl))
      obtain ⟨codeV, c4, hr4⟩ : ∃ u, wr.cell? ⟨g, off + k * 5 + 4, none⟩ = some u ∧ Rep wr B (.row 2 (code.flatMap Ins.pd)) u := cell_rep hbr (by omega) hB (hcell k 4 _ _ hx (by rw [Core.pd_mk]; rfl))
      have HR4 := Lib.hid hr4
      clear hr4
      have d0' : wr.cell? ⟨g', off' + k * 5, none⟩ = some (.string name) := cell_lit hbr (by omega) (hcell' k 0 _ _ hx (by rw [Core.pd_mk]; rfl))
      have d1' : wr.cell? ⟨g', off' + k * 5 + 1, none⟩ = some (.int .i64 params) := cell_lit hbr (by omega) (hcell' k 1 _ _ hx (by rw [Core.pd_mk]; rfl))
      have d2' : wr.cell? ⟨g', off' + k * 5 + 2, none⟩ = some (.int .i64 locals) := cell_lit hbr (by omega) (hcell' k 2 _ _ hx (by rw [Core.pd_mk]; rfl))
      have d3' : wr.cell? ⟨g', off' + k * 5 + 3, none⟩ = some (.bool result) := cell_lit hbr (by omega) (hcell' k 3 _ _ hx (by rw [Core.pd_mk]; rfl))
      obtain ⟨codeV', d4', hr4'⟩ : ∃ u, wr.cell? ⟨g', off' + k * 5 + 4, none⟩ = some u ∧ Rep wr B (.row 2 (code.flatMap Ins.pd)) u := cell_rep hbr (by omega) hB (hcell' k 4 _ _ hx (by rw [Core.pd_mk]; rfl))
      have HQ4' := Lib.hid hr4'
      clear hr4'
      have hlt' : (k : Int) < (n' : Int) := by omega
      have hgw : g < wr.heap.size := by have := hbr.size; omega
      have hgw' : g' < wr.heap.size := by have := hbr.size; omega
      have HM := Lib.hid hmem
      have HBW := Lib.hid (Nat.le_trans hB hbr.size)
      clear hx hcell hcell' hmem
      go_wp2_with fail
      have HC := Lib.hid (HI.out _ HM.out B [.string name, .int .i64 params, .int .i64 locals, .bool result, codeV] [.string name, .int .i64 params, .int .i64 locals, .bool result, codeV'] wr.drew HBW.out (Core.close_ HR4.out.drew) (Core.close_ HQ4'.out.drew))
      go_region_held3 (fun w' => w'.cell? ⟨g, off + k * 5, none⟩ = some (.string name) ∧ w'.cell? ⟨g, off + k * 5 + 1, none⟩ = some (.int .i64 params) ∧ w'.cell? ⟨g, off + k * 5 + 2, none⟩ = some (.int .i64 locals) ∧ w'.cell? ⟨g, off + k * 5 + 3, none⟩ = some (.bool result) ∧ w'.cell? ⟨g, off + k * 5 + 4, none⟩ = some (codeV) ∧ w'.cell? ⟨g', off' + k * 5, none⟩ = some (.string name) ∧ w'.cell? ⟨g', off' + k * 5 + 1, none⟩ = some (.int .i64 params) ∧ w'.cell? ⟨g', off' + k * 5 + 2, none⟩ = some (.int .i64 locals) ∧ w'.cell? ⟨g', off' + k * 5 + 3, none⟩ = some (.bool result) ∧ w'.cell? ⟨g', off' + k * 5 + 4, none⟩ = some (codeV'))
        (first | go_keep | exact ⟨(hbq.cell (p := ⟨g, off + k * 5, none⟩) hgw).trans c0, (hbq.cell (p := ⟨g, off + k * 5 + 1, none⟩) hgw).trans c1, (hbq.cell (p := ⟨g, off + k * 5 + 2, none⟩) hgw).trans c2, (hbq.cell (p := ⟨g, off + k * 5 + 3, none⟩) hgw).trans c3, (hbq.cell (p := ⟨g, off + k * 5 + 4, none⟩) hgw).trans c4, (hbq.cell (p := ⟨g', off' + k * 5, none⟩) hgw').trans d0', (hbq.cell (p := ⟨g', off' + k * 5 + 1, none⟩) hgw').trans d1', (hbq.cell (p := ⟨g', off' + k * 5 + 2, none⟩) hgw').trans d2', (hbq.cell (p := ⟨g', off' + k * 5 + 3, none⟩) hgw').trans d3', (hbq.cell (p := ⟨g', off' + k * 5 + 4, none⟩) hgw').trans d4'⟩)
        (first | (go_at_call 21; refine HC.out.mono ?_; rintro e wq ⟨rfl, hbq⟩))
      have hbn : Below w.heap.size w wq := hbr.drew.trans (hbq.mono hbr.size)
      clear hbq hbr c0 c1 c2 c3 c4 d0' d1' d2' d3' d4'
      go_wp2_with fail
      go_roundw
      case rel => exact ⟨k + 1, by omega, by go_num, hbn⟩
      case measure => simp [intOf]; omega
    · have hkn : k = n' := by omega
      subst hkn
      go_wp2_with fail
      go_ret
      exact ⟨rfl, hbr⟩
theorem eqCoreS_all (ts : List Core) : EqR 34 (.row 5 (ts.flatMap Core.pd)) := eqCoreS_step fun t _ => eqCore_all t

set_option maxHeartbeats 1600000 in
theorem eqModule_step {pages : Int} {imports : List Imp} {cores : List Core} (ih_imports : EqR 33 (.row 3 (imports.flatMap Imp.pd))) (ih_cores : EqR 34 (.row 5 (cores.flatMap Core.pd))) : EqC 10 (Mod.pd ⟨pages, imports, cores⟩) := by
  intro B cs us w hB h h'
  obtain ⟨importsV, coresV, rfl, r_imports, r_cores⟩ := Mod.open_ h
  obtain ⟨importsV', coresV', rfl, s_imports, s_cores⟩ := Mod.open_ h'
  have R_imports := Lib.hid r_imports
  have S_imports := Lib.hid s_imports
  clear r_imports s_imports
  have R_cores := Lib.hid r_cores
  have S_cores := Lib.hid s_cores
  clear r_cores s_cores
  go_enter Try.func10, Try.ntmps10
  go_wp2_with fail
  obtain ⟨w0, hw0⟩ : ∃ w0, w0 = (w.alloc (.cells #[.int .i64 pages, importsV, coresV] 31)).alloc (.cells #[.int .i64 pages, importsV', coresV'] 31) := ⟨_, rfl⟩
  rw [← hw0]
  have bA : Blk w0 w.heap.size 31 #[.int .i64 pages, importsV, coresV] := by rw [hw0]; exact (Blk.new w _ _).alloc _
  have bB : Blk w0 (w.heap.size + 1) 31 #[.int .i64 pages, importsV', coresV'] := by rw [hw0]; have := Blk.new (w.alloc (.cells #[.int .i64 pages, importsV, coresV] 31)) 31 #[.int .i64 pages, importsV', coresV']; simpa using this
  have hB0 : Below w.heap.size w w0 := by rw [hw0]; exact ((Below.refl _ _).alloc (Nat.le_refl _) _).alloc (by simp) _
  clear hw0
  refine (ih_imports B importsV importsV' _ (by have := hB0.size; omega) (R_imports.out.below (hB0.mono hB)) (S_imports.out.below (hB0.mono hB))).mono ?_
  rintro e w1 ⟨rfl, hb1⟩
  have hB1 := hB0.trans (hb1.mono hB0.size)
  replace bA := bA.step hb1
  replace bB := bB.step hb1
  have a1_2 : w1.cell? ⟨w.heap.size, 2, none⟩ = some (coresV) := bA.cell 2
  have b1_2 : w1.cell? ⟨w.heap.size + 1, 2, none⟩ = some (coresV') := bB.cell 2
  go_wp2_with fail
  refine (ih_cores B coresV coresV' _ (by have := hB1.size; omega) (R_cores.out.below (hB1.mono hB)) (S_cores.out.below (hB1.mono hB))).mono ?_
  rintro e w2 ⟨rfl, hb2⟩
  have hB2 := hB1.trans (hb2.mono hB1.size)
  replace bA := bA.step hb2
  replace bB := bB.step hb2
  go_wp2_with fail
  go_ret
  exact ⟨rfl, hB2⟩
theorem eqModule_all (t : Mod) : EqC 10 (Mod.pd t) := by obtain ⟨pages, imports, cores⟩ := t; exact eqModule_step (eqImportS_all imports) (eqCoreS_all cores)


set_option maxHeartbeats 1600000 in
theorem eqMoveS_step {ts : List Move} (ih : ∀ t ∈ ts, EqC 71 (Move.pd t)) : EqR 45 (.row 8 (ts.flatMap Move.pd)) := by
  intro B v u w hB h h'
  obtain ⟨A, n, c, rfl, hnl, hm, hat⟩ := rep_row Move.pd_length (by decide) h
  obtain ⟨A', n', c', rfl, hnl', _, hat'⟩ := rep_row Move.pd_length (by decide) h'
  have hnn : n' = n := by omega
  subst hnn
  unfold maxLen at hm
  have HN := Lib.hid hnl
  have HI := Lib.hid ih
  clear ih
  clear h h' hnl hnl'
  go_enter Try.func45, Try.ntmps45
  go_wp2_with fail
  go_loopw [5] (fun i wr => ∃ k : Nat, k ≤ n' ∧ i = .int .i64 k ∧ Below w.heap.size w wr) (fun i _ => n' - (intOf i).toNat)
  case atStart => exact ⟨0, Nat.zero_le _, rfl, Below.refl _ _⟩
  case round =>
    obtain ⟨k, hk, rfl, hbr⟩ := hrel
    by_cases hlt : k < n'
    · obtain ⟨g, off, rfl, hg, hcell⟩ := hat (by omega)
      obtain ⟨g', off', rfl, hg', hcell'⟩ := hat' (by omega)
      obtain ⟨t, hx, hmem⟩ := at_lt HN.out hlt
      obtain ⟨kind, at_, size, align, typ, most, name, kids⟩ := t
      have c0 : wr.cell? ⟨g, off + k * 8, none⟩ = some (.int .i64 kind) := cell_lit hbr (by omega) (hcell k 0 _ _ hx (by rw [Move.pd_mk]; rfl))
      have c1 : wr.cell? ⟨g, off + k * 8 + 1, none⟩ = some (.int .i64 at_) := cell_lit hbr (by omega) (hcell k 1 _ _ hx (by rw [Move.pd_mk]; rfl))
      have c2 : wr.cell? ⟨g, off + k * 8 + 2, none⟩ = some (.int .i64 size) := cell_lit hbr (by omega) (hcell k 2 _ _ hx (by rw [Move.pd_mk]; rfl))
      have c3 : wr.cell? ⟨g, off + k * 8 + 3, none⟩ = some (.int .i64 align) := cell_lit hbr (by omega) (hcell k 3 _ _ hx (by rw [Move.pd_mk]; rfl))
      have c4 : wr.cell? ⟨g, off + k * 8 + 4, none⟩ = some (.int .i64 typ) := cell_lit hbr (by omega) (hcell k 4 _ _ hx (by rw [Move.pd_mk]; rfl))
      have c5 : wr.cell? ⟨g, off + k * 8 + 5, none⟩ = some (.int .i64 most) := cell_lit hbr (by omega) (hcell k 5 _ _ hx (by rw [Move.pd_mk]; rfl))
      have c6 : wr.cell? ⟨g, off + k * 8 + 6, none⟩ = some (.string name) := cell_lit hbr (by omega) (hcell k 6 _ _ hx (by rw [Move.pd_mk]; rfl))
      obtain ⟨kidsV, c7, hr7⟩ : ∃ u, wr.cell? ⟨g, off + k * 8 + 7, none⟩ = some u ∧ Rep wr B (.row 1 (kids.flatMap rowCMoveS)) u := cell_rep hbr (by omega) hB (hcell k 7 _ _ hx (by rw [Move.pd_mk]; rfl))
      have HR7 := Lib.hid hr7
      clear hr7
      have d0' : wr.cell? ⟨g', off' + k * 8, none⟩ = some (.int .i64 kind) := cell_lit hbr (by omega) (hcell' k 0 _ _ hx (by rw [Move.pd_mk]; rfl))
      have d1' : wr.cell? ⟨g', off' + k * 8 + 1, none⟩ = some (.int .i64 at_) := cell_lit hbr (by omega) (hcell' k 1 _ _ hx (by rw [Move.pd_mk]; rfl))
      have d2' : wr.cell? ⟨g', off' + k * 8 + 2, none⟩ = some (.int .i64 size) := cell_lit hbr (by omega) (hcell' k 2 _ _ hx (by rw [Move.pd_mk]; rfl))
      have d3' : wr.cell? ⟨g', off' + k * 8 + 3, none⟩ = some (.int .i64 align) := cell_lit hbr (by omega) (hcell' k 3 _ _ hx (by rw [Move.pd_mk]; rfl))
      have d4' : wr.cell? ⟨g', off' + k * 8 + 4, none⟩ = some (.int .i64 typ) := cell_lit hbr (by omega) (hcell' k 4 _ _ hx (by rw [Move.pd_mk]; rfl))
      have d5' : wr.cell? ⟨g', off' + k * 8 + 5, none⟩ = some (.int .i64 most) := cell_lit hbr (by omega) (hcell' k 5 _ _ hx (by rw [Move.pd_mk]; rfl))
      have d6' : wr.cell? ⟨g', off' + k * 8 + 6, none⟩ = some (.string name) := cell_lit hbr (by omega) (hcell' k 6 _ _ hx (by rw [Move.pd_mk]; rfl))
      obtain ⟨kidsV', d7', hr7'⟩ : ∃ u, wr.cell? ⟨g', off' + k * 8 + 7, none⟩ = some u ∧ Rep wr B (.row 1 (kids.flatMap rowCMoveS)) u := cell_rep hbr (by omega) hB (hcell' k 7 _ _ hx (by rw [Move.pd_mk]; rfl))
      have HQ7' := Lib.hid hr7'
      clear hr7'
      have hlt' : (k : Int) < (n' : Int) := by omega
      have hgw : g < wr.heap.size := by have := hbr.size; omega
      have hgw' : g' < wr.heap.size := by have := hbr.size; omega
      have HM := Lib.hid hmem
      have HBW := Lib.hid (Nat.le_trans hB hbr.size)
      clear hx hcell hcell' hmem
      go_wp2_with fail
      have HC := Lib.hid (HI.out _ HM.out B [.int .i64 kind, .int .i64 at_, .int .i64 size, .int .i64 align, .int .i64 typ, .int .i64 most, .string name, kidsV] [.int .i64 kind, .int .i64 at_, .int .i64 size, .int .i64 align, .int .i64 typ, .int .i64 most, .string name, kidsV'] wr.drew HBW.out (Move.close_ HR7.out.drew) (Move.close_ HQ7'.out.drew))
      go_region_held3 (fun w' => w'.cell? ⟨g, off + k * 8, none⟩ = some (.int .i64 kind) ∧ w'.cell? ⟨g, off + k * 8 + 1, none⟩ = some (.int .i64 at_) ∧ w'.cell? ⟨g, off + k * 8 + 2, none⟩ = some (.int .i64 size) ∧ w'.cell? ⟨g, off + k * 8 + 3, none⟩ = some (.int .i64 align) ∧ w'.cell? ⟨g, off + k * 8 + 4, none⟩ = some (.int .i64 typ) ∧ w'.cell? ⟨g, off + k * 8 + 5, none⟩ = some (.int .i64 most) ∧ w'.cell? ⟨g, off + k * 8 + 6, none⟩ = some (.string name) ∧ w'.cell? ⟨g, off + k * 8 + 7, none⟩ = some (kidsV) ∧ w'.cell? ⟨g', off' + k * 8, none⟩ = some (.int .i64 kind) ∧ w'.cell? ⟨g', off' + k * 8 + 1, none⟩ = some (.int .i64 at_) ∧ w'.cell? ⟨g', off' + k * 8 + 2, none⟩ = some (.int .i64 size) ∧ w'.cell? ⟨g', off' + k * 8 + 3, none⟩ = some (.int .i64 align) ∧ w'.cell? ⟨g', off' + k * 8 + 4, none⟩ = some (.int .i64 typ) ∧ w'.cell? ⟨g', off' + k * 8 + 5, none⟩ = some (.int .i64 most) ∧ w'.cell? ⟨g', off' + k * 8 + 6, none⟩ = some (.string name) ∧ w'.cell? ⟨g', off' + k * 8 + 7, none⟩ = some (kidsV'))
        (first | go_keep | exact ⟨(hbq.cell (p := ⟨g, off + k * 8, none⟩) hgw).trans c0, (hbq.cell (p := ⟨g, off + k * 8 + 1, none⟩) hgw).trans c1, (hbq.cell (p := ⟨g, off + k * 8 + 2, none⟩) hgw).trans c2, (hbq.cell (p := ⟨g, off + k * 8 + 3, none⟩) hgw).trans c3, (hbq.cell (p := ⟨g, off + k * 8 + 4, none⟩) hgw).trans c4, (hbq.cell (p := ⟨g, off + k * 8 + 5, none⟩) hgw).trans c5, (hbq.cell (p := ⟨g, off + k * 8 + 6, none⟩) hgw).trans c6, (hbq.cell (p := ⟨g, off + k * 8 + 7, none⟩) hgw).trans c7, (hbq.cell (p := ⟨g', off' + k * 8, none⟩) hgw').trans d0', (hbq.cell (p := ⟨g', off' + k * 8 + 1, none⟩) hgw').trans d1', (hbq.cell (p := ⟨g', off' + k * 8 + 2, none⟩) hgw').trans d2', (hbq.cell (p := ⟨g', off' + k * 8 + 3, none⟩) hgw').trans d3', (hbq.cell (p := ⟨g', off' + k * 8 + 4, none⟩) hgw').trans d4', (hbq.cell (p := ⟨g', off' + k * 8 + 5, none⟩) hgw').trans d5', (hbq.cell (p := ⟨g', off' + k * 8 + 6, none⟩) hgw').trans d6', (hbq.cell (p := ⟨g', off' + k * 8 + 7, none⟩) hgw').trans d7'⟩)
        (first | (go_at_call 71; refine HC.out.mono ?_; rintro e wq ⟨rfl, hbq⟩))
      have hbn : Below w.heap.size w wq := hbr.drew.trans (hbq.mono hbr.size)
      clear hbq hbr c0 c1 c2 c3 c4 c5 c6 c7 d0' d1' d2' d3' d4' d5' d6' d7'
      go_wp2_with fail
      go_roundw
      case rel => exact ⟨k + 1, by omega, by go_num, hbn⟩
      case measure => simp [intOf]; omega
    · have hkn : k = n' := by omega
      subst hkn
      go_wp2_with fail
      go_ret
      exact ⟨rfl, hbr⟩
set_option maxHeartbeats 1600000 in
theorem eqMoveSS_step {ts : List (List Move)} (ih : ∀ t ∈ ts, EqR 45 (.row 8 (t.flatMap Move.pd))) : EqR 96 (.row 1 (ts.flatMap rowCMoveS)) := by
  intro B v u w hB h h'
  obtain ⟨A, n, c, rfl, hnl, hm, hat⟩ := rep_row rowCMoveS_length (by decide) h
  obtain ⟨A', n', c', rfl, hnl', _, hat'⟩ := rep_row rowCMoveS_length (by decide) h'
  have hnn : n' = n := by omega
  subst hnn
  unfold maxLen at hm
  have HN := Lib.hid hnl
  have HI := Lib.hid ih
  clear ih
  clear h h' hnl hnl'
  go_enter Try.func96, Try.ntmps96
  go_wp2_with fail
  go_loopw [5] (fun i wr => ∃ k : Nat, k ≤ n' ∧ i = .int .i64 k ∧ Below w.heap.size w wr) (fun i _ => n' - (intOf i).toNat)
  case atStart => exact ⟨0, Nat.zero_le _, rfl, Below.refl _ _⟩
  case round =>
    obtain ⟨k, hk, rfl, hbr⟩ := hrel
    by_cases hlt : k < n'
    · obtain ⟨g, off, rfl, hg, hcell⟩ := hat (by omega)
      obtain ⟨g', off', rfl, hg', hcell'⟩ := hat' (by omega)
      obtain ⟨t, hx, hmem⟩ := at_lt HN.out hlt
      obtain ⟨tV, c0, hr0⟩ : ∃ u, wr.cell? ⟨g, off + k, none⟩ = some u ∧ Rep wr B (.row 8 (t.flatMap Move.pd)) u := cell_rep hbr (by omega) hB (by have := hcell k 0 _ _ hx rfl; simpa using this)
      have HR0 := Lib.hid hr0
      clear hr0
      obtain ⟨tV', d0', hr0'⟩ : ∃ u, wr.cell? ⟨g', off' + k, none⟩ = some u ∧ Rep wr B (.row 8 (t.flatMap Move.pd)) u := cell_rep hbr (by omega) hB (by have := hcell' k 0 _ _ hx rfl; simpa using this)
      have HQ0' := Lib.hid hr0'
      clear hr0'
      have hlt' : (k : Int) < (n' : Int) := by omega
      have hgw : g < wr.heap.size := by have := hbr.size; omega
      have hgw' : g' < wr.heap.size := by have := hbr.size; omega
      have HM := Lib.hid hmem
      have HBW := Lib.hid (Nat.le_trans hB hbr.size)
      clear hx hcell hcell' hmem
      go_wp2_with fail
      have HC := Lib.hid (HI.out _ HM.out B tV tV' wr.drew HBW.out HR0.out.drew HQ0'.out.drew)
      go_region_held3 (fun w' => w'.cell? ⟨g, off + k, none⟩ = some (tV) ∧ w'.cell? ⟨g', off' + k, none⟩ = some (tV'))
        (first | go_keep | exact ⟨(hbq.cell (p := ⟨g, off + k, none⟩) hgw).trans c0, (hbq.cell (p := ⟨g', off' + k, none⟩) hgw').trans d0'⟩)
        (first | (go_at_call 45; refine HC.out.mono ?_; rintro e wq ⟨rfl, hbq⟩))
      have hbn : Below w.heap.size w wq := hbr.drew.trans (hbq.mono hbr.size)
      clear hbq hbr c0 d0'
      go_wp2_with fail
      go_roundw
      case rel => exact ⟨k + 1, by omega, by go_num, hbn⟩
      case measure => simp [intOf]; omega
    · have hkn : k = n' := by omega
      subst hkn
      go_wp2_with fail
      go_ret
      exact ⟨rfl, hbr⟩
set_option maxHeartbeats 1600000 in
theorem eqMove_step {kind : Int} {at_ : Int} {size : Int} {align : Int} {typ : Int} {most : Int} {name : ByteArray} {kids : List (List Move)} (ih_kids : EqR 96 (.row 1 (kids.flatMap rowCMoveS))) : EqC 71 (Move.pd ⟨kind, at_, size, align, typ, most, name, kids⟩) := by
  intro B cs us w hB h h'
  obtain ⟨kidsV, rfl, r_kids⟩ := Move.open_ h
  obtain ⟨kidsV', rfl, s_kids⟩ := Move.open_ h'
  have R_kids := Lib.hid r_kids
  have S_kids := Lib.hid s_kids
  clear r_kids s_kids
  go_enter Try.func71, Try.ntmps71
  go_wp2_with fail
  obtain ⟨w0, hw0⟩ : ∃ w0, w0 = (w.alloc (.cells #[.int .i64 kind, .int .i64 at_, .int .i64 size, .int .i64 align, .int .i64 typ, .int .i64 most, .string name, kidsV] 108)).alloc (.cells #[.int .i64 kind, .int .i64 at_, .int .i64 size, .int .i64 align, .int .i64 typ, .int .i64 most, .string name, kidsV'] 108) := ⟨_, rfl⟩
  rw [← hw0]
  have bA : Blk w0 w.heap.size 108 #[.int .i64 kind, .int .i64 at_, .int .i64 size, .int .i64 align, .int .i64 typ, .int .i64 most, .string name, kidsV] := by rw [hw0]; exact (Blk.new w _ _).alloc _
  have bB : Blk w0 (w.heap.size + 1) 108 #[.int .i64 kind, .int .i64 at_, .int .i64 size, .int .i64 align, .int .i64 typ, .int .i64 most, .string name, kidsV'] := by rw [hw0]; have := Blk.new (w.alloc (.cells #[.int .i64 kind, .int .i64 at_, .int .i64 size, .int .i64 align, .int .i64 typ, .int .i64 most, .string name, kidsV] 108)) 108 #[.int .i64 kind, .int .i64 at_, .int .i64 size, .int .i64 align, .int .i64 typ, .int .i64 most, .string name, kidsV']; simpa using this
  have hB0 : Below w.heap.size w w0 := by rw [hw0]; exact ((Below.refl _ _).alloc (Nat.le_refl _) _).alloc (by simp) _
  clear hw0
  refine (ih_kids B kidsV kidsV' _ (by have := hB0.size; omega) (R_kids.out.below (hB0.mono hB)) (S_kids.out.below (hB0.mono hB))).mono ?_
  rintro e w1 ⟨rfl, hb1⟩
  have hB1 := hB0.trans (hb1.mono hB0.size)
  replace bA := bA.step hb1
  replace bB := bB.step hb1
  go_wp2_with fail
  go_ret
  exact ⟨rfl, hB1⟩
mutual
theorem eqMove_all : ∀ t : Move, EqC 71 (Move.pd t)
  | .mk kind at_ size align typ most name kids => eqMove_step (eqMoveSS_step (eqMove_memS kids))
theorem eqMove_mem : ∀ ts : List Move, ∀ t ∈ ts, EqC 71 (Move.pd t)
  | [], x, hx => absurd hx (by simp)
  | t :: r, x, hx => (List.mem_cons.1 hx).elim (fun e => e ▸ eqMove_all t) (fun h => eqMove_mem r x h)
theorem eqMove_memS : ∀ ts : List (List Move), ∀ t ∈ ts, EqR 45 (.row 8 (t.flatMap Move.pd))
  | [], x, hx => absurd hx (by simp)
  | t :: r, x, hx => (List.mem_cons.1 hx).elim (fun e => e ▸ eqMoveS_step (eqMove_mem t)) (fun h => eqMove_memS r x h)
end
theorem eqMoveS_all (ts : List Move) : EqR 45 (.row 8 (ts.flatMap Move.pd)) := eqMoveS_step fun t _ => eqMove_all t
theorem eqMoveSS_all (ts : List (List Move)) : EqR 96 (.row 1 (ts.flatMap rowCMoveS)) := eqMoveSS_step fun t _ => eqMoveS_all t

set_option maxHeartbeats 1600000 in
theorem eqPlan_step {types : List Ty} {from_ : Int} {to_ : Int} {flat : List Move} {mem : List Move} (ih_types : EqR 44 (.row 4 (types.flatMap Ty.pd))) (ih_flat : EqR 45 (.row 8 (flat.flatMap Move.pd))) (ih_mem : EqR 45 (.row 8 (mem.flatMap Move.pd))) : EqC 15 (Plan.pd ⟨types, from_, to_, flat, mem⟩) := by
  intro B cs us w hB h h'
  obtain ⟨typesV, flatV, memV, rfl, r_types, r_flat, r_mem⟩ := Plan.open_ h
  obtain ⟨typesV', flatV', memV', rfl, s_types, s_flat, s_mem⟩ := Plan.open_ h'
  have R_types := Lib.hid r_types
  have S_types := Lib.hid s_types
  clear r_types s_types
  have R_flat := Lib.hid r_flat
  have S_flat := Lib.hid s_flat
  clear r_flat s_flat
  have R_mem := Lib.hid r_mem
  have S_mem := Lib.hid s_mem
  clear r_mem s_mem
  go_enter Try.func15, Try.ntmps15
  go_wp2_with fail
  obtain ⟨w0, hw0⟩ : ∃ w0, w0 = (w.alloc (.cells #[typesV, .int .i64 from_, .int .i64 to_, flatV, memV] 43)).alloc (.cells #[typesV', .int .i64 from_, .int .i64 to_, flatV', memV'] 43) := ⟨_, rfl⟩
  rw [← hw0]
  have bA : Blk w0 w.heap.size 43 #[typesV, .int .i64 from_, .int .i64 to_, flatV, memV] := by rw [hw0]; exact (Blk.new w _ _).alloc _
  have bB : Blk w0 (w.heap.size + 1) 43 #[typesV', .int .i64 from_, .int .i64 to_, flatV', memV'] := by rw [hw0]; have := Blk.new (w.alloc (.cells #[typesV, .int .i64 from_, .int .i64 to_, flatV, memV] 43)) 43 #[typesV', .int .i64 from_, .int .i64 to_, flatV', memV']; simpa using this
  have hB0 : Below w.heap.size w w0 := by rw [hw0]; exact ((Below.refl _ _).alloc (Nat.le_refl _) _).alloc (by simp) _
  clear hw0
  refine (ih_types B typesV typesV' _ (by have := hB0.size; omega) (R_types.out.below (hB0.mono hB)) (S_types.out.below (hB0.mono hB))).mono ?_
  rintro e w1 ⟨rfl, hb1⟩
  have hB1 := hB0.trans (hb1.mono hB0.size)
  replace bA := bA.step hb1
  replace bB := bB.step hb1
  have a1_1 : w1.cell? ⟨w.heap.size, 1, none⟩ = some (.int .i64 from_) := bA.cell 1
  have b1_1 : w1.cell? ⟨w.heap.size + 1, 1, none⟩ = some (.int .i64 from_) := bB.cell 1
  have a1_2 : w1.cell? ⟨w.heap.size, 2, none⟩ = some (.int .i64 to_) := bA.cell 2
  have b1_2 : w1.cell? ⟨w.heap.size + 1, 2, none⟩ = some (.int .i64 to_) := bB.cell 2
  have a1_3 : w1.cell? ⟨w.heap.size, 3, none⟩ = some (flatV) := bA.cell 3
  have b1_3 : w1.cell? ⟨w.heap.size + 1, 3, none⟩ = some (flatV') := bB.cell 3
  go_wp2_with fail
  refine (ih_flat B flatV flatV' _ (by have := hB1.size; omega) (R_flat.out.below (hB1.mono hB)) (S_flat.out.below (hB1.mono hB))).mono ?_
  rintro e w2 ⟨rfl, hb2⟩
  have hB2 := hB1.trans (hb2.mono hB1.size)
  replace bA := bA.step hb2
  replace bB := bB.step hb2
  have a2_4 : w2.cell? ⟨w.heap.size, 4, none⟩ = some (memV) := bA.cell 4
  have b2_4 : w2.cell? ⟨w.heap.size + 1, 4, none⟩ = some (memV') := bB.cell 4
  go_wp2_with fail
  refine (ih_mem B memV memV' _ (by have := hB2.size; omega) (R_mem.out.below (hB2.mono hB)) (S_mem.out.below (hB2.mono hB))).mono ?_
  rintro e w3 ⟨rfl, hb3⟩
  have hB3 := hB2.trans (hb3.mono hB2.size)
  replace bA := bA.step hb3
  replace bB := bB.step hb3
  go_wp2_with fail
  go_ret
  exact ⟨rfl, hB3⟩
theorem eqPlan_all (t : Plan) : EqC 15 (Plan.pd t) := by obtain ⟨types, from_, to_, flat, mem⟩ := t; exact eqPlan_step (eqTypeS_all types) (eqMoveS_all flat) (eqMoveS_all mem)



set_option maxHeartbeats 1600000 in
theorem eqCodeBlock_step {at_ : Int} {els : Int} {end_ : Int} {height : Int} {result : Bool} : EqC 53 (CodeBlock.pd ⟨at_, els, end_, height, result⟩) := by
  intro B cs us w hB h h'
  obtain rfl := CodeBlock.open_ h
  obtain rfl := CodeBlock.open_ h'
  go_enter Try.func53, Try.ntmps53
  go_wp2_with fail
  go_ret
  exact ⟨rfl, ((Below.refl _ _).alloc (Nat.le_refl _) _).alloc (by simp) _⟩
theorem eqCodeBlock_all (t : CodeBlock) : EqC 53 (CodeBlock.pd t) := by obtain ⟨at_, els, end_, height, result⟩ := t; exact eqCodeBlock_step 



set_option maxHeartbeats 1600000 in
theorem eqCodeBlockS_step {ts : List CodeBlock} (ih : ∀ t ∈ ts, EqC 53 (CodeBlock.pd t)) : EqR 20 (.row 5 (ts.flatMap CodeBlock.pd)) := by
  intro B v u w hB h h'
  obtain ⟨A, n, c, rfl, hnl, hm, hat⟩ := rep_row CodeBlock.pd_length (by decide) h
  obtain ⟨A', n', c', rfl, hnl', _, hat'⟩ := rep_row CodeBlock.pd_length (by decide) h'
  have hnn : n' = n := by omega
  subst hnn
  unfold maxLen at hm
  have HN := Lib.hid hnl
  have HI := Lib.hid ih
  clear ih
  clear h h' hnl hnl'
  go_enter Try.func20, Try.ntmps20
  go_wp2_with fail
  go_loopw [5] (fun i wr => ∃ k : Nat, k ≤ n' ∧ i = .int .i64 k ∧ Below w.heap.size w wr) (fun i _ => n' - (intOf i).toNat)
  case atStart => exact ⟨0, Nat.zero_le _, rfl, Below.refl _ _⟩
  case round =>
    obtain ⟨k, hk, rfl, hbr⟩ := hrel
    by_cases hlt : k < n'
    · obtain ⟨g, off, rfl, hg, hcell⟩ := hat (by omega)
      obtain ⟨g', off', rfl, hg', hcell'⟩ := hat' (by omega)
      obtain ⟨t, hx, hmem⟩ := at_lt HN.out hlt
      obtain ⟨at_, els, end_, height, result⟩ := t
      have c0 : wr.cell? ⟨g, off + k * 5, none⟩ = some (.int .i64 at_) := cell_lit hbr (by omega) (hcell k 0 _ _ hx (by rw [CodeBlock.pd_mk]; rfl))
      have c1 : wr.cell? ⟨g, off + k * 5 + 1, none⟩ = some (.int .i64 els) := cell_lit hbr (by omega) (hcell k 1 _ _ hx (by rw [CodeBlock.pd_mk]; rfl))
      have c2 : wr.cell? ⟨g, off + k * 5 + 2, none⟩ = some (.int .i64 end_) := cell_lit hbr (by omega) (hcell k 2 _ _ hx (by rw [CodeBlock.pd_mk]; rfl))
      have c3 : wr.cell? ⟨g, off + k * 5 + 3, none⟩ = some (.int .i64 height) := cell_lit hbr (by omega) (hcell k 3 _ _ hx (by rw [CodeBlock.pd_mk]; rfl))
      have c4 : wr.cell? ⟨g, off + k * 5 + 4, none⟩ = some (.bool result) := cell_lit hbr (by omega) (hcell k 4 _ _ hx (by rw [CodeBlock.pd_mk]; rfl))
      have d0' : wr.cell? ⟨g', off' + k * 5, none⟩ = some (.int .i64 at_) := cell_lit hbr (by omega) (hcell' k 0 _ _ hx (by rw [CodeBlock.pd_mk]; rfl))
      have d1' : wr.cell? ⟨g', off' + k * 5 + 1, none⟩ = some (.int .i64 els) := cell_lit hbr (by omega) (hcell' k 1 _ _ hx (by rw [CodeBlock.pd_mk]; rfl))
      have d2' : wr.cell? ⟨g', off' + k * 5 + 2, none⟩ = some (.int .i64 end_) := cell_lit hbr (by omega) (hcell' k 2 _ _ hx (by rw [CodeBlock.pd_mk]; rfl))
      have d3' : wr.cell? ⟨g', off' + k * 5 + 3, none⟩ = some (.int .i64 height) := cell_lit hbr (by omega) (hcell' k 3 _ _ hx (by rw [CodeBlock.pd_mk]; rfl))
      have d4' : wr.cell? ⟨g', off' + k * 5 + 4, none⟩ = some (.bool result) := cell_lit hbr (by omega) (hcell' k 4 _ _ hx (by rw [CodeBlock.pd_mk]; rfl))
      have hlt' : (k : Int) < (n' : Int) := by omega
      have hgw : g < wr.heap.size := by have := hbr.size; omega
      have hgw' : g' < wr.heap.size := by have := hbr.size; omega
      have HM := Lib.hid hmem
      have HBW := Lib.hid (Nat.le_trans hB hbr.size)
      clear hx hcell hcell' hmem
      go_wp2_with fail
      have HC := Lib.hid (HI.out _ HM.out B [.int .i64 at_, .int .i64 els, .int .i64 end_, .int .i64 height, .bool result] [.int .i64 at_, .int .i64 els, .int .i64 end_, .int .i64 height, .bool result] wr.drew HBW.out (CodeBlock.close_) (CodeBlock.close_))
      go_region_held3 (fun w' => w'.cell? ⟨g, off + k * 5, none⟩ = some (.int .i64 at_) ∧ w'.cell? ⟨g, off + k * 5 + 1, none⟩ = some (.int .i64 els) ∧ w'.cell? ⟨g, off + k * 5 + 2, none⟩ = some (.int .i64 end_) ∧ w'.cell? ⟨g, off + k * 5 + 3, none⟩ = some (.int .i64 height) ∧ w'.cell? ⟨g, off + k * 5 + 4, none⟩ = some (.bool result) ∧ w'.cell? ⟨g', off' + k * 5, none⟩ = some (.int .i64 at_) ∧ w'.cell? ⟨g', off' + k * 5 + 1, none⟩ = some (.int .i64 els) ∧ w'.cell? ⟨g', off' + k * 5 + 2, none⟩ = some (.int .i64 end_) ∧ w'.cell? ⟨g', off' + k * 5 + 3, none⟩ = some (.int .i64 height) ∧ w'.cell? ⟨g', off' + k * 5 + 4, none⟩ = some (.bool result))
        (first | go_keep | exact ⟨(hbq.cell (p := ⟨g, off + k * 5, none⟩) hgw).trans c0, (hbq.cell (p := ⟨g, off + k * 5 + 1, none⟩) hgw).trans c1, (hbq.cell (p := ⟨g, off + k * 5 + 2, none⟩) hgw).trans c2, (hbq.cell (p := ⟨g, off + k * 5 + 3, none⟩) hgw).trans c3, (hbq.cell (p := ⟨g, off + k * 5 + 4, none⟩) hgw).trans c4, (hbq.cell (p := ⟨g', off' + k * 5, none⟩) hgw').trans d0', (hbq.cell (p := ⟨g', off' + k * 5 + 1, none⟩) hgw').trans d1', (hbq.cell (p := ⟨g', off' + k * 5 + 2, none⟩) hgw').trans d2', (hbq.cell (p := ⟨g', off' + k * 5 + 3, none⟩) hgw').trans d3', (hbq.cell (p := ⟨g', off' + k * 5 + 4, none⟩) hgw').trans d4'⟩)
        (first | (go_at_call 53; refine HC.out.mono ?_; rintro e wq ⟨rfl, hbq⟩))
      have hbn : Below w.heap.size w wq := hbr.drew.trans (hbq.mono hbr.size)
      clear hbq hbr c0 c1 c2 c3 c4 d0' d1' d2' d3' d4'
      go_wp2_with fail
      go_roundw
      case rel => exact ⟨k + 1, by omega, by go_num, hbn⟩
      case measure => simp [intOf]; omega
    · have hkn : k = n' := by omega
      subst hkn
      go_wp2_with fail
      go_ret
      exact ⟨rfl, hbr⟩
theorem eqCodeBlockS_all (ts : List CodeBlock) : EqR 20 (.row 5 (ts.flatMap CodeBlock.pd)) := eqCodeBlockS_step fun t _ => eqCodeBlock_all t


end Go.Proofs.Ytnedcpoengcbaaa
