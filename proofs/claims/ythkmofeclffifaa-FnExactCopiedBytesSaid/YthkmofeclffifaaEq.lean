/-
  The laws' own helpers 'eq..' over the program's types (by program: tygen2.py, tyfam.py).
-/
import Derived.Test.YthkmofeclffifaaFam
import Derived.Test.YthkmofeclffifaaTy
namespace Go.Proofs.Ythkmofeclffifaa
open Go.RowKit
set_option linter.unusedVariables false
set_option linter.unusedSimpArgs false
set_option linter.unnecessarySimpa false
set_option maxRecDepth 100000























set_option maxHeartbeats 1600000 in
theorem eqMoveS_step {ts : List Move} (ih : ∀ t ∈ ts, EqC 13 (Move.pd t)) : EqR 8 (.row 8 (ts.flatMap Move.pd)) := by
  intro B v u w hB h h'
  obtain ⟨A, n, c, rfl, hnl, hm, hat⟩ := rep_row Move.pd_length (by decide) h
  obtain ⟨A', n', c', rfl, hnl', _, hat'⟩ := rep_row Move.pd_length (by decide) h'
  have hnn : n' = n := by omega
  subst hnn
  unfold maxLen at hm
  have HN := Lib.hid hnl
  have HI := Lib.hid ih
  clear ih
  clear h h' hnl hnl'
  go_enter Try.func8, Try.ntmps8
  go_wp2_with fail
  go_loopw [5] (fun i wr => ∃ k : Nat, k ≤ n' ∧ i = .int .i64 k ∧ Below w.heap.size w wr) (fun i _ => n' - (intOf i).toNat)
  case atStart => exact ⟨0, Nat.zero_le _, rfl, Below.refl _ _⟩
  case round =>
    obtain ⟨k, hk, rfl, hbr⟩ := hrel
    by_cases hlt : k < n'
    · obtain ⟨g, off, rfl, hg, hcell⟩ := hat (by omega)
      obtain ⟨g', off', rfl, hg', hcell'⟩ := hat' (by omega)
      obtain ⟨t, hx, hmem⟩ := at_lt HN.out hlt
      obtain ⟨kind, at_, size, align, typ, most, name, kids⟩ := t
      have c0 : wr.cell? ⟨g, off + k * 8, none⟩ = some (.int .i64 kind) := cell_lit hbr (by omega) (hcell k 0 _ _ hx (by rw [Move.pd_mk]; rfl))
      have c1 : wr.cell? ⟨g, off + k * 8 + 1, none⟩ = some (.int .i64 at_) := cell_lit hbr (by omega) (hcell k 1 _ _ hx (by rw [Move.pd_mk]; rfl))
      have c2 : wr.cell? ⟨g, off + k * 8 + 2, none⟩ = some (.int .i64 size) := cell_lit hbr (by omega) (hcell k 2 _ _ hx (by rw [Move.pd_mk]; rfl))
      have c3 : wr.cell? ⟨g, off + k * 8 + 3, none⟩ = some (.int .i64 align) := cell_lit hbr (by omega) (hcell k 3 _ _ hx (by rw [Move.pd_mk]; rfl))
      have c4 : wr.cell? ⟨g, off + k * 8 + 4, none⟩ = some (.int .i64 typ) := cell_lit hbr (by omega) (hcell k 4 _ _ hx (by rw [Move.pd_mk]; rfl))
      have c5 : wr.cell? ⟨g, off + k * 8 + 5, none⟩ = some (.int .i64 most) := cell_lit hbr (by omega) (hcell k 5 _ _ hx (by rw [Move.pd_mk]; rfl))
      have c6 : wr.cell? ⟨g, off + k * 8 + 6, none⟩ = some (.string name) := cell_lit hbr (by omega) (hcell k 6 _ _ hx (by rw [Move.pd_mk]; rfl))
      obtain ⟨kidsV, c7, hr7⟩ : ∃ u, wr.cell? ⟨g, off + k * 8 + 7, none⟩ = some u ∧ Rep wr B (.row 1 (kids.flatMap rowCMoveS)) u := cell_rep hbr (by omega) hB (hcell k 7 _ _ hx (by rw [Move.pd_mk]; rfl))
      have HR7 := Lib.hid hr7
      clear hr7
      have d0' : wr.cell? ⟨g', off' + k * 8, none⟩ = some (.int .i64 kind) := cell_lit hbr (by omega) (hcell' k 0 _ _ hx (by rw [Move.pd_mk]; rfl))
      have d1' : wr.cell? ⟨g', off' + k * 8 + 1, none⟩ = some (.int .i64 at_) := cell_lit hbr (by omega) (hcell' k 1 _ _ hx (by rw [Move.pd_mk]; rfl))
      have d2' : wr.cell? ⟨g', off' + k * 8 + 2, none⟩ = some (.int .i64 size) := cell_lit hbr (by omega) (hcell' k 2 _ _ hx (by rw [Move.pd_mk]; rfl))
      have d3' : wr.cell? ⟨g', off' + k * 8 + 3, none⟩ = some (.int .i64 align) := cell_lit hbr (by omega) (hcell' k 3 _ _ hx (by rw [Move.pd_mk]; rfl))
      have d4' : wr.cell? ⟨g', off' + k * 8 + 4, none⟩ = some (.int .i64 typ) := cell_lit hbr (by omega) (hcell' k 4 _ _ hx (by rw [Move.pd_mk]; rfl))
      have d5' : wr.cell? ⟨g', off' + k * 8 + 5, none⟩ = some (.int .i64 most) := cell_lit hbr (by omega) (hcell' k 5 _ _ hx (by rw [Move.pd_mk]; rfl))
      have d6' : wr.cell? ⟨g', off' + k * 8 + 6, none⟩ = some (.string name) := cell_lit hbr (by omega) (hcell' k 6 _ _ hx (by rw [Move.pd_mk]; rfl))
      obtain ⟨kidsV', d7', hr7'⟩ : ∃ u, wr.cell? ⟨g', off' + k * 8 + 7, none⟩ = some u ∧ Rep wr B (.row 1 (kids.flatMap rowCMoveS)) u := cell_rep hbr (by omega) hB (hcell' k 7 _ _ hx (by rw [Move.pd_mk]; rfl))
      have HQ7' := Lib.hid hr7'
      clear hr7'
      have hlt' : (k : Int) < (n' : Int) := by omega
      have hgw : g < wr.heap.size := by have := hbr.size; omega
      have hgw' : g' < wr.heap.size := by have := hbr.size; omega
      have HM := Lib.hid hmem
      have HBW := Lib.hid (Nat.le_trans hB hbr.size)
      clear hx hcell hcell' hmem
      go_wp2_with fail
      have HC := Lib.hid (HI.out _ HM.out B [.int .i64 kind, .int .i64 at_, .int .i64 size, .int .i64 align, .int .i64 typ, .int .i64 most, .string name, kidsV] [.int .i64 kind, .int .i64 at_, .int .i64 size, .int .i64 align, .int .i64 typ, .int .i64 most, .string name, kidsV'] wr.drew HBW.out (Move.close_ HR7.out.drew) (Move.close_ HQ7'.out.drew))
      go_region_held3 (fun w' => w'.cell? ⟨g, off + k * 8, none⟩ = some (.int .i64 kind) ∧ w'.cell? ⟨g, off + k * 8 + 1, none⟩ = some (.int .i64 at_) ∧ w'.cell? ⟨g, off + k * 8 + 2, none⟩ = some (.int .i64 size) ∧ w'.cell? ⟨g, off + k * 8 + 3, none⟩ = some (.int .i64 align) ∧ w'.cell? ⟨g, off + k * 8 + 4, none⟩ = some (.int .i64 typ) ∧ w'.cell? ⟨g, off + k * 8 + 5, none⟩ = some (.int .i64 most) ∧ w'.cell? ⟨g, off + k * 8 + 6, none⟩ = some (.string name) ∧ w'.cell? ⟨g, off + k * 8 + 7, none⟩ = some (kidsV) ∧ w'.cell? ⟨g', off' + k * 8, none⟩ = some (.int .i64 kind) ∧ w'.cell? ⟨g', off' + k * 8 + 1, none⟩ = some (.int .i64 at_) ∧ w'.cell? ⟨g', off' + k * 8 + 2, none⟩ = some (.int .i64 size) ∧ w'.cell? ⟨g', off' + k * 8 + 3, none⟩ = some (.int .i64 align) ∧ w'.cell? ⟨g', off' + k * 8 + 4, none⟩ = some (.int .i64 typ) ∧ w'.cell? ⟨g', off' + k * 8 + 5, none⟩ = some (.int .i64 most) ∧ w'.cell? ⟨g', off' + k * 8 + 6, none⟩ = some (.string name) ∧ w'.cell? ⟨g', off' + k * 8 + 7, none⟩ = some (kidsV'))
        (first | go_keep | exact ⟨(hbq.cell (p := ⟨g, off + k * 8, none⟩) hgw).trans c0, (hbq.cell (p := ⟨g, off + k * 8 + 1, none⟩) hgw).trans c1, (hbq.cell (p := ⟨g, off + k * 8 + 2, none⟩) hgw).trans c2, (hbq.cell (p := ⟨g, off + k * 8 + 3, none⟩) hgw).trans c3, (hbq.cell (p := ⟨g, off + k * 8 + 4, none⟩) hgw).trans c4, (hbq.cell (p := ⟨g, off + k * 8 + 5, none⟩) hgw).trans c5, (hbq.cell (p := ⟨g, off + k * 8 + 6, none⟩) hgw).trans c6, (hbq.cell (p := ⟨g, off + k * 8 + 7, none⟩) hgw).trans c7, (hbq.cell (p := ⟨g', off' + k * 8, none⟩) hgw').trans d0', (hbq.cell (p := ⟨g', off' + k * 8 + 1, none⟩) hgw').trans d1', (hbq.cell (p := ⟨g', off' + k * 8 + 2, none⟩) hgw').trans d2', (hbq.cell (p := ⟨g', off' + k * 8 + 3, none⟩) hgw').trans d3', (hbq.cell (p := ⟨g', off' + k * 8 + 4, none⟩) hgw').trans d4', (hbq.cell (p := ⟨g', off' + k * 8 + 5, none⟩) hgw').trans d5', (hbq.cell (p := ⟨g', off' + k * 8 + 6, none⟩) hgw').trans d6', (hbq.cell (p := ⟨g', off' + k * 8 + 7, none⟩) hgw').trans d7'⟩)
        (first | (go_at_call 13; refine HC.out.mono ?_; rintro e wq ⟨rfl, hbq⟩))
      have hbn : Below w.heap.size w wq := hbr.drew.trans (hbq.mono hbr.size)
      clear hbq hbr c0 c1 c2 c3 c4 c5 c6 c7 d0' d1' d2' d3' d4' d5' d6' d7'
      go_wp2_with fail
      go_roundw
      case rel => exact ⟨k + 1, by omega, by go_num, hbn⟩
      case measure => simp [intOf]; omega
    · have hkn : k = n' := by omega
      subst hkn
      go_wp2_with fail
      go_ret
      exact ⟨rfl, hbr⟩
set_option maxHeartbeats 1600000 in
theorem eqMoveSS_step {ts : List (List Move)} (ih : ∀ t ∈ ts, EqR 8 (.row 8 (t.flatMap Move.pd))) : EqR 16 (.row 1 (ts.flatMap rowCMoveS)) := by
  intro B v u w hB h h'
  obtain ⟨A, n, c, rfl, hnl, hm, hat⟩ := rep_row rowCMoveS_length (by decide) h
  obtain ⟨A', n', c', rfl, hnl', _, hat'⟩ := rep_row rowCMoveS_length (by decide) h'
  have hnn : n' = n := by omega
  subst hnn
  unfold maxLen at hm
  have HN := Lib.hid hnl
  have HI := Lib.hid ih
  clear ih
  clear h h' hnl hnl'
  go_enter Try.func16, Try.ntmps16
  go_wp2_with fail
  go_loopw [5] (fun i wr => ∃ k : Nat, k ≤ n' ∧ i = .int .i64 k ∧ Below w.heap.size w wr) (fun i _ => n' - (intOf i).toNat)
  case atStart => exact ⟨0, Nat.zero_le _, rfl, Below.refl _ _⟩
  case round =>
    obtain ⟨k, hk, rfl, hbr⟩ := hrel
    by_cases hlt : k < n'
    · obtain ⟨g, off, rfl, hg, hcell⟩ := hat (by omega)
      obtain ⟨g', off', rfl, hg', hcell'⟩ := hat' (by omega)
      obtain ⟨t, hx, hmem⟩ := at_lt HN.out hlt
      obtain ⟨tV, c0, hr0⟩ : ∃ u, wr.cell? ⟨g, off + k, none⟩ = some u ∧ Rep wr B (.row 8 (t.flatMap Move.pd)) u := cell_rep hbr (by omega) hB (by have := hcell k 0 _ _ hx rfl; simpa using this)
      have HR0 := Lib.hid hr0
      clear hr0
      obtain ⟨tV', d0', hr0'⟩ : ∃ u, wr.cell? ⟨g', off' + k, none⟩ = some u ∧ Rep wr B (.row 8 (t.flatMap Move.pd)) u := cell_rep hbr (by omega) hB (by have := hcell' k 0 _ _ hx rfl; simpa using this)
      have HQ0' := Lib.hid hr0'
      clear hr0'
      have hlt' : (k : Int) < (n' : Int) := by omega
      have hgw : g < wr.heap.size := by have := hbr.size; omega
      have hgw' : g' < wr.heap.size := by have := hbr.size; omega
      have HM := Lib.hid hmem
      have HBW := Lib.hid (Nat.le_trans hB hbr.size)
      clear hx hcell hcell' hmem
      go_wp2_with fail
      have HC := Lib.hid (HI.out _ HM.out B tV tV' wr.drew HBW.out HR0.out.drew HQ0'.out.drew)
      go_region_held3 (fun w' => w'.cell? ⟨g, off + k, none⟩ = some (tV) ∧ w'.cell? ⟨g', off' + k, none⟩ = some (tV'))
        (first | go_keep | exact ⟨(hbq.cell (p := ⟨g, off + k, none⟩) hgw).trans c0, (hbq.cell (p := ⟨g', off' + k, none⟩) hgw').trans d0'⟩)
        (first | (go_at_call 8; refine HC.out.mono ?_; rintro e wq ⟨rfl, hbq⟩))
      have hbn : Below w.heap.size w wq := hbr.drew.trans (hbq.mono hbr.size)
      clear hbq hbr c0 d0'
      go_wp2_with fail
      go_roundw
      case rel => exact ⟨k + 1, by omega, by go_num, hbn⟩
      case measure => simp [intOf]; omega
    · have hkn : k = n' := by omega
      subst hkn
      go_wp2_with fail
      go_ret
      exact ⟨rfl, hbr⟩
set_option maxHeartbeats 1600000 in
theorem eqMove_step {kind : Int} {at_ : Int} {size : Int} {align : Int} {typ : Int} {most : Int} {name : ByteArray} {kids : List (List Move)} (ih_kids : EqR 16 (.row 1 (kids.flatMap rowCMoveS))) : EqC 13 (Move.pd ⟨kind, at_, size, align, typ, most, name, kids⟩) := by
  intro B cs us w hB h h'
  obtain ⟨kidsV, rfl, r_kids⟩ := Move.open_ h
  obtain ⟨kidsV', rfl, s_kids⟩ := Move.open_ h'
  have R_kids := Lib.hid r_kids
  have S_kids := Lib.hid s_kids
  clear r_kids s_kids
  go_enter Try.func13, Try.ntmps13
  go_wp2_with fail
  obtain ⟨w0, hw0⟩ : ∃ w0, w0 = (w.alloc (.cells #[.int .i64 kind, .int .i64 at_, .int .i64 size, .int .i64 align, .int .i64 typ, .int .i64 most, .string name, kidsV] 36)).alloc (.cells #[.int .i64 kind, .int .i64 at_, .int .i64 size, .int .i64 align, .int .i64 typ, .int .i64 most, .string name, kidsV'] 36) := ⟨_, rfl⟩
  rw [← hw0]
  have bA : Blk w0 w.heap.size 36 #[.int .i64 kind, .int .i64 at_, .int .i64 size, .int .i64 align, .int .i64 typ, .int .i64 most, .string name, kidsV] := by rw [hw0]; exact (Blk.new w _ _).alloc _
  have bB : Blk w0 (w.heap.size + 1) 36 #[.int .i64 kind, .int .i64 at_, .int .i64 size, .int .i64 align, .int .i64 typ, .int .i64 most, .string name, kidsV'] := by rw [hw0]; have := Blk.new (w.alloc (.cells #[.int .i64 kind, .int .i64 at_, .int .i64 size, .int .i64 align, .int .i64 typ, .int .i64 most, .string name, kidsV] 36)) 36 #[.int .i64 kind, .int .i64 at_, .int .i64 size, .int .i64 align, .int .i64 typ, .int .i64 most, .string name, kidsV']; simpa using this
  have hB0 : Below w.heap.size w w0 := by rw [hw0]; exact ((Below.refl _ _).alloc (Nat.le_refl _) _).alloc (by simp) _
  clear hw0
  refine (ih_kids B kidsV kidsV' _ (by have := hB0.size; omega) (R_kids.out.below (hB0.mono hB)) (S_kids.out.below (hB0.mono hB))).mono ?_
  rintro e w1 ⟨rfl, hb1⟩
  have hB1 := hB0.trans (hb1.mono hB0.size)
  replace bA := bA.step hb1
  replace bB := bB.step hb1
  go_wp2_with fail
  go_ret
  exact ⟨rfl, hB1⟩
mutual
theorem eqMove_all : ∀ t : Move, EqC 13 (Move.pd t)
  | .mk kind at_ size align typ most name kids => eqMove_step (eqMoveSS_step (eqMove_memS kids))
theorem eqMove_mem : ∀ ts : List Move, ∀ t ∈ ts, EqC 13 (Move.pd t)
  | [], x, hx => absurd hx (by simp)
  | t :: r, x, hx => (List.mem_cons.1 hx).elim (fun e => e ▸ eqMove_all t) (fun h => eqMove_mem r x h)
theorem eqMove_memS : ∀ ts : List (List Move), ∀ t ∈ ts, EqR 8 (.row 8 (t.flatMap Move.pd))
  | [], x, hx => absurd hx (by simp)
  | t :: r, x, hx => (List.mem_cons.1 hx).elim (fun e => e ▸ eqMoveS_step (eqMove_mem t)) (fun h => eqMove_memS r x h)
end
theorem eqMoveS_all (ts : List Move) : EqR 8 (.row 8 (ts.flatMap Move.pd)) := eqMoveS_step fun t _ => eqMove_all t
theorem eqMoveSS_all (ts : List (List Move)) : EqR 16 (.row 1 (ts.flatMap rowCMoveS)) := eqMoveSS_step fun t _ => eqMoveS_all t




end Go.Proofs.Ythkmofeclffifaa
