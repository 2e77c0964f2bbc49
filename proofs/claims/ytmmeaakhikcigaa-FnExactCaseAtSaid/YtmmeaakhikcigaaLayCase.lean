/-
  Where a case stands: spec.CaseAt, impl.CaseAt.
-/
import Derived.Test.YtmmeaakhikcigaaLayOk
namespace Go.Proofs.Ytmmeaakhikcigaa
open Go.RowKit
set_option linter.unusedVariables false
set_option linter.unusedSimpArgs false
set_option linter.unnecessarySimpa false

theorem cases_none {t : Ty} (hs : t.shapes = true) : t.cases.length = 0 ↔ t.cased = false := by
  obtain ⟨kind, name, labels, kids⟩ := t
  have hk := (shapes_right hs).1
  have hl := (shapes_right hs).2
  show (Ty.cases ⟨kind, name, labels, kids⟩).length = 0 ↔ (kind == 13 || kind == 14 || kind == 17) = false
  rw [Ty.cases]
  by_cases h13 : kind = 13
  · subst h13; simp
  by_cases h14 : kind = 14
  · subst h14
    rw [kidsRight, if_neg (by decide), if_neg (by decide), if_pos rfl, decide_eq_true_iff] at hk
    simp [hk]
  by_cases h17 : kind = 17
  · subst h17
    have h2 := hl rfl
    simp only [labelsOk, Bool.and_eq_true, inB_iff] at h2
    rw [kidsRight, if_neg (by decide), if_neg (by decide), if_neg (by decide), if_neg (by decide), if_neg (by decide), if_pos rfl, decide_eq_true_iff] at hk
    rw [if_neg (by decide), if_pos (by decide)]
    simp
    intro e
    rw [e] at hk
    simp at hk
    omega
  · rw [if_neg h13, if_neg (by omega)]
    simp [h13, h14, h17]
theorem isCased_any (k : Int) (w : World) : Calls Try.prog 99 #[.int .i64 k] w fun e w' => e = .returned (.bool (k == 13 || k == 14 || k == 17)) ∧ w = w' := by
  by_cases h13 : k = 13
  · subst h13
    go_enter Try.func99, Try.ntmps99
    go_wp2
    all_goals go_ret
    all_goals exact ⟨rfl, rfl⟩
  have k13 : (k == 13) = false := by simpa using h13
  by_cases h14 : k = 14
  · subst h14
    go_enter Try.func99, Try.ntmps99
    go_wp2
    all_goals go_ret
    all_goals exact ⟨rfl, rfl⟩
  have k14 : (k == 14) = false := by simpa using h14
  go_enter Try.func99, Try.ntmps99
  go_wp2
  all_goals go_ret
  all_goals exact ⟨ret_bool (by simp [k13, k14]), rfl⟩
set_option maxHeartbeats 1600000 in
theorem specCase_any (t : Ty) {B : Nat} {cs : List Value} {w : World} (hp : t.parts ≤ 4194304) (hs : t.shapes = true) (hw : PD.wfL (Ty.pd t)) (hB : B ≤ w.heap.size) (h : RepC w B (Ty.pd t) cs) :
    Calls Try.prog 98 #[.agg cs.toArray] w fun e w' => e = .returned (.int .i64 (up 1 (Ty.mostL t.cases).2 : Nat)) ∧ Below w.heap.size w w' := by
  obtain ⟨kind, name, labels, kids⟩ := t
  obtain ⟨hg, hgk⟩ := good_cases hp hs hw
  obtain ⟨m1, m2, _, _⟩ := mostL_le (Ty.cases ⟨kind, name, labels, kids⟩)
  obtain ⟨labelsV, kidsV, rfl, r_labels, r_kids⟩ := Ty.open_ h
  have R_labels := Lib.hid r_labels
  clear r_labels
  have R_kids := Lib.hid r_kids
  clear r_kids
  obtain ⟨L, hL⟩ : ∃ L, L = (Ty.mostL (Ty.cases ⟨kind, name, labels, kids⟩)).2 := ⟨_, rfl⟩
  obtain ⟨S, hS⟩ : ∃ S, S = (Ty.mostL (Ty.cases ⟨kind, name, labels, kids⟩)).1 := ⟨_, rfl⟩
  rw [← hL] at m1 m2 ⊢
  have HC := fun W => specUp_any 1 L W (by omega) m1 m2
  obtain ⟨U, hU⟩ : ∃ U : Nat, U = up 1 L := ⟨_, rfl⟩
  rw [← hU] at HC ⊢
  have HC1 := Lib.hid HC
  have HL := Lib.hid hL
  have HS1 := Lib.hid hS
  have HG := Lib.hid hg
  have HS := Lib.hid hs
  have HW := Lib.hid hw
  clear hg hs hw hgk hp h hU HC hL hS
  go_enter Try.func98, Try.ntmps98
  go_wp2_with fail
  obtain ⟨w0, hw0⟩ : ∃ W, W = w.alloc (.cells #[.int .i64 kind, .string name, labelsV, kidsV] 51) := ⟨_, rfl⟩
  rw [← hw0]
  have bA : Blk w0 w.heap.size 51 #[.int .i64 kind, .string name, labelsV, kidsV] := by rw [hw0]; exact Blk.new w _ _
  have hB0 : Below w.heap.size w w0 := by rw [hw0]; exact (Below.refl _ _).alloc (Nat.le_refl _) _
  clear hw0
  have RC : Hid (RepC w0 B (Ty.pd ⟨kind, name, labels, kids⟩) [.int .i64 kind, .string name, labelsV, kidsV]) := Ty.close_ (R_labels.out.below (hB0.mono hB)) (R_kids.out.below (hB0.mono hB))
  have hBs := Nat.le_trans hB hB0.size
  refine (specCases_any ⟨kind, name, labels, kids⟩ hBs HW.out HS.out RC.out).mono ?_
  rintro e w1 ⟨u, rfl, hu, hb1⟩
  have HU1 := Lib.hid hu
  have hB1 := hB0.trans (hb1.mono hB0.size)
  clear hu
  go_wp2_with fail
  refine (specMost_any (fun t _ => specLay_all t) HG.out (Nat.le_refl _) HU1.out).mono ?_
  rintro e w2 ⟨rfl, hb2⟩
  rw [← HL.out, ← HS1.out]
  go_wp2_with fail
  refine (HC1.out _).mono ?_
  rintro e w3 ⟨rfl, rfl⟩
  go_wp2_with fail
  go_ret
  exact ⟨rfl, hB1.trans (hb2.mono hB1.size)⟩
set_option maxHeartbeats 1600000 in
theorem specCaseAt_ok (t : Ty) (hwf : PD.wfL (Ty.pd t)) (hsz : PD.szL (Ty.pd t) ≤ 1048576) : FnCV 41 (Ty.pd t) (.int .i64 t.caseRes) := by
  intro B cs w hB h
  have hp := parts_sz hsz
  obtain ⟨kind, name, labels, kids⟩ := t
  obtain ⟨labelsV, kidsV, rfl, r_labels, r_kids⟩ := Ty.open_ h
  have R_labels := Lib.hid r_labels
  clear r_labels
  have R_kids := Lib.hid r_kids
  clear r_kids
  have HW := Lib.hid hwf
  have HP := Lib.hid hp
  clear h hwf hsz hp
  go_enter Try.func41, Try.ntmps41
  go_wp2_with fail
  obtain ⟨w0, hw0⟩ : ∃ W, W = w.alloc (.cells #[.int .i64 kind, .string name, labelsV, kidsV] 51) := ⟨_, rfl⟩
  rw [← hw0]
  have bA : Blk w0 w.heap.size 51 #[.int .i64 kind, .string name, labelsV, kidsV] := by rw [hw0]; exact Blk.new w _ _
  have hB0 : Below w.heap.size w w0 := by rw [hw0]; exact (Below.refl _ _).alloc (Nat.le_refl _) _
  clear hw0
  have RC : Hid (RepC w0 B (Ty.pd ⟨kind, name, labels, kids⟩) [.int .i64 kind, .string name, labelsV, kidsV]) := Ty.close_ (R_labels.out.below (hB0.mono hB)) (R_kids.out.below (hB0.mono hB))
  have hBs := Nat.le_trans hB hB0.size
  refine (specTypeOk_any ⟨kind, name, labels, kids⟩ (B := B) (cs := [.int .i64 kind, .string name, labelsV, kidsV]) hBs HW.out RC.out).mono ?_
  rintro e w1 ⟨rfl, hb1⟩
  have hB1 := hB0.trans (hb1.mono hB0.size)
  have bA1 := bA.step hb1
  clear bA
  cases hok : typeOk ⟨kind, name, labels, kids⟩
  · have HF : Hid (Ty.caseRes ⟨kind, name, labels, kids⟩ = 0) := by show _ = _; rw [Ty.caseRes, hok]; rfl
    clear hok
    go_wp2_with fail
    go_ret
    exact ⟨ret_int HF.out.symm, hB1⟩
  have HS := Lib.hid (typeOk_shapes hok)
  have HOK := Lib.hid hok
  clear hok
  have aw1_0 : w1.cell? ⟨w.heap.size, 0, none⟩ = some (.int .i64 kind) := bA1.cell 0
  have aw1_1 : w1.cell? ⟨w.heap.size, 1, none⟩ = some (.string name) := bA1.cell 1
  have aw1_2 : w1.cell? ⟨w.heap.size, 2, none⟩ = some (labelsV) := bA1.cell 2
  have aw1_3 : w1.cell? ⟨w.heap.size, 3, none⟩ = some (kidsV) := bA1.cell 3
  go_wp2_with fail
  refine (specCases_any ⟨kind, name, labels, kids⟩ (Nat.le_trans hBs hb1.size) HW.out HS.out (RC.out.below (hb1.mono hBs))).mono ?_
  rintro e w2 ⟨v, rfl, hv, hb2⟩
  have hB2 := hB1.trans (hb2.mono hB1.size)
  have bA2 := bA1.step hb2
  clear bA1
  obtain ⟨A, n, c, rfl, hnl, hm, _⟩ := rep_row Ty.pd_length (by decide) hv
  unfold maxLen at hm
  clear hv
  by_cases hn0 : n = 0
  · subst hn0
    have HF : Hid (Ty.caseRes ⟨kind, name, labels, kids⟩ = 0) := by show _ = _; rw [Ty.caseRes, (cases_none HS.out).1 hnl.symm, Bool.and_false]; rfl
    clear hnl
    go_wp2_with fail
    go_ret
    exact ⟨ret_int HF.out.symm, hB2⟩
  have hcs : (Ty.mk kind name labels kids).cased = true := by
    cases e : (Ty.mk kind name labels kids).cased
    · exact absurd ((cases_none HS.out).2 e) (by omega)
    · rfl
  have HF : Hid (Ty.caseRes ⟨kind, name, labels, kids⟩ = (up 1 (Ty.mostL (Ty.mk kind name labels kids).cases).2 : Nat)) := by show _ = _; rw [Ty.caseRes, HOK.out, hcs]; rfl
  have hkk : ((n : Int) == 0) = false := by simp; omega
  clear hnl hcs
  have aw2_0 : w2.cell? ⟨w.heap.size, 0, none⟩ = some (.int .i64 kind) := bA2.cell 0
  have aw2_1 : w2.cell? ⟨w.heap.size, 1, none⟩ = some (.string name) := bA2.cell 1
  have aw2_2 : w2.cell? ⟨w.heap.size, 2, none⟩ = some (labelsV) := bA2.cell 2
  have aw2_3 : w2.cell? ⟨w.heap.size, 3, none⟩ = some (kidsV) := bA2.cell 3
  go_wp2_with fail
  refine (specCase_any ⟨kind, name, labels, kids⟩ (B := B) (cs := [.int .i64 kind, .string name, labelsV, kidsV]) HP.out HS.out HW.out (Nat.le_trans hBs (Nat.le_trans hb1.size hb2.size)) ((RC.out.below (hb1.mono hBs)).below (hb2.mono (Nat.le_trans hBs hb1.size)))).mono ?_
  rintro e w3 ⟨rfl, hb3⟩
  go_wp2_with fail
  go_ret
  exact ⟨ret_int HF.out.symm, hB2.trans (hb3.mono hB2.size)⟩
set_option maxHeartbeats 1600000 in
theorem implCaseAt_ok (t : Ty) (hwf : PD.wfL (Ty.pd t)) (hsz : PD.szL (Ty.pd t) ≤ 1048576) : FnCV 42 (Ty.pd t) (.int .i64 t.caseRes) := by
  intro B cs w hB h
  have hp := parts_sz hsz
  obtain ⟨kind, name, labels, kids⟩ := t
  obtain ⟨labelsV, kidsV, rfl, r_labels, r_kids⟩ := Ty.open_ h
  have R_labels := Lib.hid r_labels
  clear r_labels
  have R_kids := Lib.hid r_kids
  clear r_kids
  have HW := Lib.hid hwf
  have HP := Lib.hid hp
  clear h hwf hsz hp
  go_enter Try.func42, Try.ntmps42
  go_wp2_with fail
  obtain ⟨w0, hw0⟩ : ∃ W, W = w.alloc (.cells #[.int .i64 kind, .string name, labelsV, kidsV] 51) := ⟨_, rfl⟩
  rw [← hw0]
  have bA : Blk w0 w.heap.size 51 #[.int .i64 kind, .string name, labelsV, kidsV] := by rw [hw0]; exact Blk.new w _ _
  have hB0 : Below w.heap.size w w0 := by rw [hw0]; exact (Below.refl _ _).alloc (Nat.le_refl _) _
  clear hw0
  have RC : Hid (RepC w0 B (Ty.pd ⟨kind, name, labels, kids⟩) [.int .i64 kind, .string name, labelsV, kidsV]) := Ty.close_ (R_labels.out.below (hB0.mono hB)) (R_kids.out.below (hB0.mono hB))
  have hBs := Nat.le_trans hB hB0.size
  refine (implTypeOk_any ⟨kind, name, labels, kids⟩ (B := B) (cs := [.int .i64 kind, .string name, labelsV, kidsV]) hBs HW.out HP.out RC.out).mono ?_
  rintro e w1 ⟨rfl, hb1⟩
  have hB1 := hB0.trans (hb1.mono hB0.size)
  have bA1 := bA.step hb1
  clear bA
  cases hok : typeOk ⟨kind, name, labels, kids⟩
  · have HF : Hid (Ty.caseRes ⟨kind, name, labels, kids⟩ = 0) := by show _ = _; rw [Ty.caseRes, hok]; rfl
    clear hok
    go_wp2_with fail
    go_ret
    exact ⟨ret_int HF.out.symm, hB1⟩
  have HS := Lib.hid (typeOk_shapes hok)
  have HOK := Lib.hid hok
  clear hok
  have aw1_0 : w1.cell? ⟨w.heap.size, 0, none⟩ = some (.int .i64 kind) := bA1.cell 0
  have aw1_1 : w1.cell? ⟨w.heap.size, 1, none⟩ = some (.string name) := bA1.cell 1
  have aw1_2 : w1.cell? ⟨w.heap.size, 2, none⟩ = some (labelsV) := bA1.cell 2
  have aw1_3 : w1.cell? ⟨w.heap.size, 3, none⟩ = some (kidsV) := bA1.cell 3
  go_wp2_with fail
  refine (isCased_any _ _).mono ?_
  rintro e w2 ⟨rfl, rfl⟩
  cases hc : (kind == 13 || kind == 14 || kind == 17)
  · have HF : Hid (Ty.caseRes ⟨kind, name, labels, kids⟩ = 0) := by show _ = _; rw [Ty.caseRes, show (Ty.mk kind name labels kids).cased = false from hc, Bool.and_false]; rfl
    clear hc
    go_wp2_with fail
    go_ret
    exact ⟨ret_int HF.out.symm, hB1⟩
  have HF : Hid (Ty.caseRes ⟨kind, name, labels, kids⟩ = (up 1 (Ty.mostL (Ty.mk kind name labels kids).cases).2 : Nat)) := by show _ = _; rw [Ty.caseRes, HOK.out, show (Ty.mk kind name labels kids).cased = true from hc]; rfl
  clear hc
  go_wp2_with fail
  refine (caseAt_any ⟨kind, name, labels, kids⟩ (B := B) (cs := [.int .i64 kind, .string name, labelsV, kidsV]) HP.out HS.out HW.out (Nat.le_trans hBs hb1.size) (RC.out.below (hb1.mono hBs))).mono ?_
  rintro e w3 ⟨rfl, hb3⟩
  go_wp2_with fail
  go_ret
  exact ⟨ret_int HF.out.symm, hB1.trans (hb3.mono hB1.size)⟩
end Go.Proofs.Ytmmeaakhikcigaa

