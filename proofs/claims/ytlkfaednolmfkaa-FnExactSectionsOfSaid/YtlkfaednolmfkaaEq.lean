/-
  The laws' own helpers 'eq..' over the program's types (by program: tygen2.py, tyfam.py).
-/
import Derived.Test.YtlkfaednolmfkaaFam
import Derived.Test.YtlkfaednolmfkaaTy
namespace Go.Proofs.Ytlkfaednolmfkaa
open Go.RowKit
set_option linter.unusedVariables false
set_option linter.unusedSimpArgs false
set_option linter.unnecessarySimpa false
set_option maxRecDepth 100000















set_option maxHeartbeats 1600000 in
theorem eqIns_step {op : Int} {a : Int} : EqC 9 (Ins.pd ⟨op, a⟩) := by
  intro B cs us w hB h h'
  obtain rfl := Ins.open_ h
  obtain rfl := Ins.open_ h'
  go_enter Try.func9, Try.ntmps9
  go_wp2_with fail
  go_ret
  exact ⟨rfl, ((Below.refl _ _).alloc (Nat.le_refl _) _).alloc (by simp) _⟩
theorem eqIns_all (t : Ins) : EqC 9 (Ins.pd t) := by obtain ⟨op, a⟩ := t; exact eqIns_step 










set_option maxHeartbeats 1600000 in
theorem eqSection_step {id : Int} {name : ByteArray} {bytes : ByteArray} : EqC 51 (Section.pd ⟨id, name, bytes⟩) := by
  intro B cs us w hB h h'
  obtain rfl := Section.open_ h
  obtain rfl := Section.open_ h'
  go_enter Try.func51, Try.ntmps51
  go_wp2_with fail
  go_ret
  exact ⟨rfl, ((Below.refl _ _).alloc (Nat.le_refl _) _).alloc (by simp) _⟩
theorem eqSection_all (t : Section) : EqC 51 (Section.pd t) := by obtain ⟨id, name, bytes⟩ := t; exact eqSection_step 


set_option maxHeartbeats 1600000 in
theorem eqSectionS_step {ts : List Section} (ih : ∀ t ∈ ts, EqC 51 (Section.pd t)) : EqR 26 (.row 3 (ts.flatMap Section.pd)) := by
  intro B v u w hB h h'
  obtain ⟨A, n, c, rfl, hnl, hm, hat⟩ := rep_row Section.pd_length (by decide) h
  obtain ⟨A', n', c', rfl, hnl', _, hat'⟩ := rep_row Section.pd_length (by decide) h'
  have hnn : n' = n := by omega
  subst hnn
  unfold maxLen at hm
  have HN := Lib.hid hnl
  have HI := Lib.hid ih
  clear ih
  clear h h' hnl hnl'
  go_enter Try.func26, Try.ntmps26
  go_wp2_with fail
  go_loopw [5] (fun i wr => ∃ k : Nat, k ≤ n' ∧ i = .int .i64 k ∧ Below w.heap.size w wr) (fun i _ => n' - (intOf i).toNat)
  case atStart => exact ⟨0, Nat.zero_le _, rfl, Below.refl _ _⟩
  case round =>
    obtain ⟨k, hk, rfl, hbr⟩ := hrel
    by_cases hlt : k < n'
    · obtain ⟨g, off, rfl, hg, hcell⟩ := hat (by omega)
      obtain ⟨g', off', rfl, hg', hcell'⟩ := hat' (by omega)
      obtain ⟨t, hx, hmem⟩ := at_lt HN.out hlt
      obtain ⟨id, name, bytes⟩ := t
      have c0 : wr.cell? ⟨g, off + k * 3, none⟩ = some (.int .i64 id) := cell_lit hbr (by omega) (hcell k 0 _ _ hx (by rw [Section.pd_mk]; rfl))
      have c1 : wr.cell? ⟨g, off + k * 3 + 1, none⟩ = some (.string name) := cell_lit hbr (by omega) (hcell k 1 _ _ hx (by rw [Section.pd_mk]; rfl))
      have c2 : wr.cell? ⟨g, off + k * 3 + 2, none⟩ = some (.string bytes) := cell_lit hbr (by omega) (hcell k 2 _ _ hx (by rw [Section.pd_mk]; rfl))
      have d0' : wr.cell? ⟨g', off' + k * 3, none⟩ = some (.int .i64 id) := cell_lit hbr (by omega) (hcell' k 0 _ _ hx (by rw [Section.pd_mk]; rfl))
      have d1' : wr.cell? ⟨g', off' + k * 3 + 1, none⟩ = some (.string name) := cell_lit hbr (by omega) (hcell' k 1 _ _ hx (by rw [Section.pd_mk]; rfl))
      have d2' : wr.cell? ⟨g', off' + k * 3 + 2, none⟩ = some (.string bytes) := cell_lit hbr (by omega) (hcell' k 2 _ _ hx (by rw [Section.pd_mk]; rfl))
      have hlt' : (k : Int) < (n' : Int) := by omega
      have hgw : g < wr.heap.size := by have := hbr.size; omega
      have hgw' : g' < wr.heap.size := by have := hbr.size; omega
      have HM := Lib.hid hmem
      have HBW := Lib.hid (Nat.le_trans hB hbr.size)
      clear hx hcell hcell' hmem
      go_wp2_with fail
      have HC := Lib.hid (HI.out _ HM.out B [.int .i64 id, .string name, .string bytes] [.int .i64 id, .string name, .string bytes] wr.drew HBW.out (Section.close_) (Section.close_))
      go_region_held3 (fun w' => w'.cell? ⟨g, off + k * 3, none⟩ = some (.int .i64 id) ∧ w'.cell? ⟨g, off + k * 3 + 1, none⟩ = some (.string name) ∧ w'.cell? ⟨g, off + k * 3 + 2, none⟩ = some (.string bytes) ∧ w'.cell? ⟨g', off' + k * 3, none⟩ = some (.int .i64 id) ∧ w'.cell? ⟨g', off' + k * 3 + 1, none⟩ = some (.string name) ∧ w'.cell? ⟨g', off' + k * 3 + 2, none⟩ = some (.string bytes))
        (first | go_keep | exact ⟨(hbq.cell (p := ⟨g, off + k * 3, none⟩) hgw).trans c0, (hbq.cell (p := ⟨g, off + k * 3 + 1, none⟩) hgw).trans c1, (hbq.cell (p := ⟨g, off + k * 3 + 2, none⟩) hgw).trans c2, (hbq.cell (p := ⟨g', off' + k * 3, none⟩) hgw').trans d0', (hbq.cell (p := ⟨g', off' + k * 3 + 1, none⟩) hgw').trans d1', (hbq.cell (p := ⟨g', off' + k * 3 + 2, none⟩) hgw').trans d2'⟩)
        (first | (go_at_call 51; refine HC.out.mono ?_; rintro e wq ⟨rfl, hbq⟩))
      have hbn : Below w.heap.size w wq := hbr.drew.trans (hbq.mono hbr.size)
      clear hbq hbr c0 c1 c2 d0' d1' d2'
      go_wp2_with fail
      go_roundw
      case rel => exact ⟨k + 1, by omega, by go_num, hbn⟩
      case measure => simp [intOf]; omega
    · have hkn : k = n' := by omega
      subst hkn
      go_wp2_with fail
      go_ret
      exact ⟨rfl, hbr⟩
theorem eqSectionS_all (ts : List Section) : EqR 26 (.row 3 (ts.flatMap Section.pd)) := eqSectionS_step fun t _ => eqSection_all t

end Go.Proofs.Ytlkfaednolmfkaa
