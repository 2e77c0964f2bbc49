/-
  spec.l03Shape, spec.l03Parts, impl.shapeOk at any type; spec.TypeOk, impl.TypeOk.
-/
import Derived.Test.YtbafphecjijdmaaGreatDoorShSpecNamed
import Derived.Test.YtbafphecjijdmaaGreatDoorShSpecLab
import Derived.Test.YtbafphecjijdmaaGreatDoorShSpecPlain
import Derived.Test.YtbafphecjijdmaaGreatDoorShImplNamed
import Derived.Test.YtbafphecjijdmaaGreatDoorShImplLab
import Derived.Test.YtbafphecjijdmaaGreatDoorShImplPlain
import Derived.Test.YtbafphecjijdmaaGreatDoorTySize
namespace Go.Proofs.YtbafphecjijdmaaGreatDoor
open Go.RowKit
set_option linter.unusedVariables false
set_option linter.unusedSimpArgs false
set_option linter.unnecessarySimpa false

theorem tyWf {kind : Int} {name : ByteArray} {labels : List ByteArray} {kids : List Ty} (h : PD.wfL (Ty.pd ⟨kind, name, labels, kids⟩)) :
    name.size ≤ maxLen ∧ (∀ s ∈ labels, s.size ≤ maxLen) ∧ ∀ t ∈ kids, PD.wfL (Ty.pd t) := by
  rw [Ty.pd_mk] at h
  simp only [PD.wfL, PD.wf] at h
  refine ⟨h.2.1, fun s hs => ?_, wfL_flatMap.1 h.2.2.2.1⟩
  have := wfL_flatMap.1 h.2.2.1 s hs
  rw [strC] at this
  simp only [PD.wfL, PD.wf] at this
  exact this.1
theorem tyIn {kind : Int} {name : ByteArray} {labels : List ByteArray} {kids : List Ty} {B : Nat} {cs : List Value} {w : World} (hB : B ≤ w.heap.size) (hwf : PD.wfL (Ty.pd ⟨kind, name, labels, kids⟩)) (h : RepC w B (Ty.pd ⟨kind, name, labels, kids⟩) cs) :
    ∃ A n c A' n' c', cs = [.int .i64 kind, .string name, .slice A' n' c', .slice A n c] ∧ TyIn B n n' c c' A A' name labels kids w := by
  obtain ⟨labelsV, kidsV, rfl, r1, r2⟩ := Ty.open_ h
  obtain ⟨A, n, c, rfl, hn, hm, _⟩ := rep_row Ty.pd_length (by decide) r2
  obtain ⟨A', n', c', rfl, hn', hm', _⟩ := rep_row strC_length (by decide) r1
  unfold maxLen at hm hm'
  obtain ⟨h1, h2, _⟩ := tyWf hwf
  exact ⟨A, n, c, A', n', c', rfl, ⟨hB, hm, hm', hn, hn', h1, h2, r1, r2⟩⟩
theorem specShape_any (t : Ty) {B : Nat} {cs : List Value} {w : World} (hB : B ≤ w.heap.size) (hwf : PD.wfL (Ty.pd t)) (h : RepC w B (Ty.pd t) cs) :
    Calls Tryz.prog 154 #[.agg cs.toArray] w fun e w' => e = .returned (.bool (shape1 t)) ∧ Below w.heap.size w w' := by
  obtain ⟨kind, name, labels, kids⟩ := t
  obtain ⟨A, n, c, A', n', c', rfl, ht⟩ := tyIn hB hwf h
  rcases kind_cases kind with hk | hk | hk
  · exact specShape_named (Lib.hid ht) hk (.inr trivial)
  · exact specShape_labelled (Lib.hid ht) hk
  · by_cases hz : name.size = 0
    · by_cases hl : n' = 0
      · exact specShape_plain1 (Lib.hid ht) hk hz hl
      · exact specShape_plain0 (Lib.hid ht) hk (.inr hl)
    · exact specShape_plain0 (Lib.hid ht) hk (.inl hz)
set_option maxHeartbeats 1600000 in
theorem implShape_kids {kind : Int} {name : ByteArray} {labels : List ByteArray} {kids : List Ty} {B n n' c c' : Nat} {A A' : Option Addr} {w : World} (HT : Hid (TyIn B n n' c c' A A' name labels kids w)) (HI : Hid (∀ t ∈ kids, ShapesK t)) (HW : Hid (∀ t ∈ kids, PD.wfL (Ty.pd t))) (HK : Hid ((kids.any fun t => !t.shapes) = true)) : Calls Tryz.prog 113 #[.agg #[.int .i64 kind, .string name, .slice A' n' c', .slice A n c]] w fun e w' => e = .returned (.bool (Ty.shapes ⟨kind, name, labels, kids⟩)) ∧ Below w.heap.size w w' := by
  have HF : Hid (Ty.shapes ⟨kind, name, labels, kids⟩ = false) := by
    show _ = _
    rw [Ty.shapes, shapesL_eq, Bool.and_eq_false_iff]
    right
    rw [List.all_eq_false]
    obtain ⟨x, hx, hy⟩ := List.any_eq_true.1 HK.out
    exact ⟨x, hx, by simpa using hy⟩
  go_enter Tryz.func113, Tryz.ntmps113
  go_wp2_with fail
  obtain ⟨w0, hw0⟩ : ∃ W, W = w.alloc (.cells #[.int .i64 kind, .string name, .slice A' n' c', .slice A n c] 60) := ⟨_, rfl⟩
  rw [← hw0]
  have bA : Blk w0 w.heap.size 60 #[.int .i64 kind, .string name, .slice A' n' c', .slice A n c] := by rw [hw0]; exact Blk.new w _ _
  have hB0 : Below w.heap.size w w0 := by rw [hw0]; exact (Below.refl _ _).alloc (Nat.le_refl _) _
  clear hw0
  refine (hasTypeS_any 139 #[] (fun t => !t.shapes) (HT.out.c (kind := 0) hB0).1 (HT.out.k hB0) shape1_enter (fun t ht cs W hW hr => shapeCl_any (HI.out t ht) (B := W.heap.size) (Nat.le_refl _) (HW.out t ht) (hr.more (by have h1 := (HT.out.c (kind := 0) hB0).1; have := hW.size; omega)))).mono ?_
  rintro e w1 ⟨rfl, hb1⟩
  rw [HK.out]
  go_wp2_with fail
  go_ret
  exact ⟨ret_bool HF.out.symm, hB0.trans (hb1.mono hB0.size)⟩
theorem implShape_all : ∀ t : Ty, ShapesK t := Ty.rec_kids fun kind name labels kids ih => by
  intro B cs w hB hwf h
  obtain ⟨A, n, c, A', n', c', rfl, ht⟩ := tyIn hB hwf h
  have HW := Lib.hid (tyWf hwf).2.2
  have HI := Lib.hid ih
  cases hk : kids.any fun t => !t.shapes
  case true => exact implShape_kids (Lib.hid ht) HI HW (Lib.hid hk)
  have HK := Lib.hid hk
  rcases kind_cases kind with hk | hk | hk
  · exact implShape_named (Lib.hid ht) HI HW HK hk (.inr trivial)
  · exact implShape_labelled (Lib.hid ht) HI HW HK hk
  · by_cases hz : name.size = 0
    · by_cases hl : n' = 0
      · exact implShape_plain1 (Lib.hid ht) HI HW HK hk hz hl
      · exact implShape_plain0 (Lib.hid ht) HI HW HK hk (.inr hl)
    · exact implShape_plain0 (Lib.hid ht) HI HW HK hk (.inl hz)

def PartsSC (t : Ty) : Prop := ∀ (B : Nat) (cs : List Value) (w : World), B ≤ w.heap.size → PD.wfL (Ty.pd t) → RepC w B (Ty.pd t) cs →
  Calls Tryz.prog 132 #[.agg cs.toArray] w fun e w' => e = .returned (.bool t.shapes) ∧ Below w.heap.size w w'
set_option maxHeartbeats 1600000 in
theorem specParts_step {kind : Int} {name : ByteArray} {labels : List ByteArray} {kids : List Ty} (ih : ∀ t ∈ kids, PartsSC t) : PartsSC ⟨kind, name, labels, kids⟩ := by
  intro B cs w hB hwf h
  have HWK := Lib.hid (tyWf hwf).2.2
  have HWF := Lib.hid hwf
  obtain ⟨labelsV, kidsV, rfl, r_labels, r_kids⟩ := Ty.open_ h
  have R_labels := Lib.hid r_labels
  clear r_labels
  have R_kids := Lib.hid r_kids
  clear r_kids
  obtain ⟨A, n, c, rfl, hnl, hm, hat⟩ := rep_row Ty.pd_length (by decide) R_kids.out
  unfold maxLen at hm
  have HN := Lib.hid hnl
  have HI := Lib.hid ih
  clear hnl ih h hwf
  have HF := Lib.hid (show (Ty.mk kind name labels kids).shapes = (shape1 ⟨kind, name, labels, kids⟩ && !kids.any fun t => !t.shapes) by rw [Ty.shapes, shapesL_eq, List.all_eq_not_any_not])
  go_enter Tryz.func132, Tryz.ntmps132
  go_wp2_with fail
  obtain ⟨w0, hw0⟩ : ∃ W, W = w.alloc (.cells #[.int .i64 kind, .string name, labelsV, .slice A n c] 60) := ⟨_, rfl⟩
  rw [← hw0]
  have bA : Blk w0 w.heap.size 60 #[.int .i64 kind, .string name, labelsV, .slice A n c] := by rw [hw0]; exact Blk.new w _ _
  have hB0 : Below w.heap.size w w0 := by rw [hw0]; exact (Below.refl _ _).alloc (Nat.le_refl _) _
  clear hw0
  refine (specShape_any ⟨kind, name, labels, kids⟩ (B := B) (cs := [.int .i64 kind, .string name, labelsV, .slice A n c]) (by have := hB0.size; omega) HWF.out (Ty.close_ (R_labels.out.below (hB0.mono hB)) (R_kids.out.below (hB0.mono hB)))).mono ?_
  rintro e w1 ⟨rfl, hb1⟩
  have hB1 := hB0.trans (hb1.mono hB0.size)
  have bA1 := bA.step hb1
  clear bA
  cases hs : shape1 ⟨kind, name, labels, kids⟩
  · have HS := Lib.hid hs
    clear hs
    go_wp2_with fail
    go_ret
    exact ⟨ret_bool (by rw [HF.out, HS.out]; rfl), hB1⟩
  have HS := Lib.hid hs
  clear hs
  go_wp2_with fail
  go_loopw [3] (fun i wr => ∃ k : Nat, k ≤ n ∧ i = .int .i64 k ∧ Hid (∀ (j : Nat) (t : Ty), j < k → kids[j]? = some t → (!t.shapes) = false) ∧ Below w.heap.size w wr ∧ Blk wr w.heap.size 60 #[.int .i64 kind, .string name, labelsV, .slice A n c]) (fun i _ => n - (intOf i).toNat)
  case atStart => exact ⟨0, Nat.zero_le _, rfl, Lib.hid fun j t h => absurd h (by omega), hB1, bA1⟩
  case round =>
    obtain ⟨k, hk, rfl, HP, hbr, bR⟩ := hrel
    clear hB0 hB1 bA1
    have a_kids : wr.cell? ⟨w.heap.size, 3, none⟩ = some (.slice A n c) := bR.cell 3
    have hsz := hbr.size
    by_cases hlt : k < n
    · obtain ⟨g, off, rfl, hg2, hcell2⟩ := hat (by omega)
      obtain ⟨t2, hx2, hmem2⟩ := at_lt HN.out hlt
      obtain ⟨kind2, name2, labels2, kids2⟩ := t2
      have c_kind2 : wr.cell? ⟨g, off + k * 4, none⟩ = some (.int .i64 kind2) := cell_lit hbr (by omega) (hcell2 k 0 _ _ hx2 (by rw [Ty.pd_mk]; rfl))
      have c_name2 : wr.cell? ⟨g, off + k * 4 + 1, none⟩ = some (.string name2) := cell_lit hbr (by omega) (hcell2 k 1 _ _ hx2 (by rw [Ty.pd_mk]; rfl))
      obtain ⟨labelsV2, c_labels2, r_labels2⟩ : ∃ u, wr.cell? ⟨g, off + k * 4 + 2, none⟩ = some u ∧ Rep wr B (.row 1 (labels2.flatMap strC)) u := cell_rep hbr (by omega) hB (hcell2 k 2 _ _ hx2 (by rw [Ty.pd_mk]; rfl))
      have R_labels2 := Lib.hid r_labels2
      clear r_labels2
      obtain ⟨kidsV2, c_kids2, r_kids2⟩ : ∃ u, wr.cell? ⟨g, off + k * 4 + 3, none⟩ = some u ∧ Rep wr B (.row 4 (kids2.flatMap Ty.pd)) u := cell_rep hbr (by omega) hB (hcell2 k 3 _ _ hx2 (by rw [Ty.pd_mk]; rfl))
      have R_kids2 := Lib.hid r_kids2
      clear r_kids2
      have HX2 := Lib.hid hx2
      have HM2 := Lib.hid hmem2
      clear hx2 hmem2
      clear hcell2
      have hcall := HI.out _ HM2.out B [.int .i64 kind2, .string name2, labelsV2, kidsV2] wr (Nat.le_trans hB hbr.size) (HWK.out _ HM2.out) (Ty.close_ R_labels2.out R_kids2.out)
      obtain ⟨t, ht⟩ : ∃ t : Ty, t = ⟨kind2, name2, labels2, kids2⟩ := ⟨_, rfl⟩
      have hx := HX2.out
      rw [← ht] at hcall hx
      have HX := Lib.hid hx
      have HC := Lib.hid hcall
      clear hcall ht hx
      go_wp2_with fail
      refine HC.out.mono ?_
      rintro e w2 ⟨rfl, hb2⟩
      have bR1 := bR.step hb2
      have hB2 := hbr.trans (hb2.mono hbr.size)
      cases hb : t.shapes
      · have HA := Lib.hid (any_hit (p := fun t : Ty => !t.shapes) HX.out (by rw [hb]; rfl))
        go_wp2_with fail
        go_ret
        exact ⟨ret_bool (by rw [HF.out, HS.out, HA.out]; rfl), hB2⟩
      · have HB := Lib.hid (show (!t.shapes) = false by rw [hb]; rfl)
        clear hb
        go_wp2_with fail
        go_roundw
        case rel => exact ⟨k + 1, by omega, by go_num, Lib.hid (pre_next (p := fun t : Ty => !t.shapes) HP.out HX.out HB.out), hB2, bR1⟩
        case measure => simp [intOf]; omega
    · have hkn : k = n := by omega
      subst hkn
      have HA := Lib.hid (any_none (p := fun t : Ty => !t.shapes) (ts := kids) (n := k) (by have := HN.out; omega) HP.out)
      go_wp2_with fail
      go_ret
      exact ⟨ret_bool (by rw [HF.out, HS.out, HA.out]; rfl), hbr⟩
theorem specParts_all : ∀ t : Ty, PartsSC t := Ty.rec_kids fun kind name labels kids ih => specParts_step ih

/-! ### spec.TypeOk, impl.TypeOk -/
set_option maxHeartbeats 1600000 in
theorem specOk_any (t : Ty) {B : Nat} {cs : List Value} {w : World} (hB : B ≤ w.heap.size) (hwf : PD.wfL (Ty.pd t)) (h : RepC w B (Ty.pd t) cs) :
    Calls Tryz.prog 101 #[.agg cs.toArray] w fun e w' => e = .returned (.bool (typeOk t)) ∧ Below w.heap.size w w' := by
  obtain ⟨kind, name, labels, kids⟩ := t
  obtain ⟨labelsV, kidsV, rfl, r_labels, r_kids⟩ := Ty.open_ h
  have R_labels := Lib.hid r_labels
  clear r_labels
  have R_kids := Lib.hid r_kids
  clear r_kids
  have HWF := Lib.hid hwf
  clear h hwf
  go_enter Tryz.func101, Tryz.ntmps101
  go_wp2_with fail
  obtain ⟨w0, hw0⟩ : ∃ W, W = w.alloc (.cells #[.int .i64 kind, .string name, labelsV, kidsV] 60) := ⟨_, rfl⟩
  rw [← hw0]
  have bA : Blk w0 w.heap.size 60 #[.int .i64 kind, .string name, labelsV, kidsV] := by rw [hw0]; exact Blk.new w _ _
  have hB0 : Below w.heap.size w w0 := by rw [hw0]; exact (Below.refl _ _).alloc (Nat.le_refl _) _
  clear hw0
  have RC : Hid (RepC w0 B (Ty.pd ⟨kind, name, labels, kids⟩) [.int .i64 kind, .string name, labelsV, kidsV]) := Ty.close_ (R_labels.out.below (hB0.mono hB)) (R_kids.out.below (hB0.mono hB))
  have hBs := Nat.le_trans hB hB0.size
  refine (specSize_all ⟨kind, name, labels, kids⟩ B [.int .i64 kind, .string name, labelsV, kidsV] w0 1 (by omega) (by omega) hBs RC.out).mono ?_
  rintro e w1 ⟨rfl, hb1⟩
  have hB1 := hB0.trans (hb1.mono hB0.size)
  have bA1 := bA.step hb1
  clear bA
  have a1_0 : w1.cell? ⟨w.heap.size, 0, none⟩ = some (.int .i64 kind) := bA1.cell 0
  have a1_1 : w1.cell? ⟨w.heap.size, 1, none⟩ = some (.string name) := bA1.cell 1
  have a1_2 : w1.cell? ⟨w.heap.size, 2, none⟩ = some labelsV := bA1.cell 2
  have a1_3 : w1.cell? ⟨w.heap.size, 3, none⟩ = some kidsV := bA1.cell 3
  by_cases hs : sizeIn ⟨kind, name, labels, kids⟩ 1
  · have hD : szD ⟨kind, name, labels, kids⟩ 1 = ((Ty.mk kind name labels kids).height : Int) := if_pos hs
    have hP : szP ⟨kind, name, labels, kids⟩ 1 = ((Ty.mk kind name labels kids).parts : Int) := if_pos hs
    rw [hD, hP]
    obtain ⟨D, hDD⟩ : ∃ D, D = (Ty.mk kind name labels kids).height := ⟨_, rfl⟩
    obtain ⟨Q, hQQ⟩ : ∃ Q, Q = (Ty.mk kind name labels kids).parts := ⟨_, rfl⟩
    have h1 : D ≤ 4 := by have := hs.1; omega
    have h2 : Q ≤ 24 := by have := hs.2; omega
    have HF : Hid (typeOk ⟨kind, name, labels, kids⟩ = (Ty.mk kind name labels kids).shapes) := by
      show _ = _
      rw [typeOk, decide_eq_true (by omega), decide_eq_true (by omega)]
      rfl
    rw [← hDD, ← hQQ]
    clear hD hP hDD hQQ hs
    go_wp2_with fail
    refine (specParts_all ⟨kind, name, labels, kids⟩ B [.int .i64 kind, .string name, labelsV, kidsV] w1 (Nat.le_trans hBs hb1.size) HWF.out (RC.out.below (hb1.mono hBs))).mono ?_
    rintro e w2 ⟨rfl, hb2⟩
    go_wp2_with fail
    go_ret
    exact ⟨ret_bool HF.out.symm, hB1.trans (hb2.mono hB1.size)⟩
  · have hD : szD ⟨kind, name, labels, kids⟩ 1 = 5 := if_neg hs
    have hP : szP ⟨kind, name, labels, kids⟩ 1 = 25 := if_neg hs
    have HF : Hid (typeOk ⟨kind, name, labels, kids⟩ = false) := by
      show _ = _
      by_cases h1 : (Ty.mk kind name labels kids).height ≤ 4
      · rw [typeOk, decide_eq_true h1, decide_eq_false (fun h2 => hs ⟨by omega, h2⟩)]
        rfl
      · rw [typeOk, decide_eq_false h1]
        rfl
    rw [hD, hP]
    clear hD hP hs
    go_wp2_with fail
    go_ret
    exact ⟨ret_bool HF.out.symm, hB1⟩
set_option maxHeartbeats 1600000 in
theorem implTypeOk_any (t : Ty) {B : Nat} {cs : List Value} {w : World} (hB : B ≤ w.heap.size) (hwf : PD.wfL (Ty.pd t)) (hp : t.parts ≤ 4194304) (h : RepC w B (Ty.pd t) cs) :
    Calls Tryz.prog 84 #[.agg cs.toArray] w fun e w' => e = .returned (.bool (typeOk t)) ∧ Below w.heap.size w w' := by
  obtain ⟨kind, name, labels, kids⟩ := t
  obtain ⟨labelsV, kidsV, rfl, r_labels, r_kids⟩ := Ty.open_ h
  have R_labels := Lib.hid r_labels
  clear r_labels
  have R_kids := Lib.hid r_kids
  clear r_kids
  have HWF := Lib.hid hwf
  have HP := Lib.hid hp
  clear h hwf hp
  have HD : Hid (min (Ty.mk kind name labels kids).height (4 + 1) ≤ 5) := Nat.min_le_right _ _
  have HDD : Hid ((Ty.mk kind name labels kids).height ≤ 4 ↔ min (Ty.mk kind name labels kids).height (4 + 1) ≤ 4) := by show _ ↔ _; omega
  obtain ⟨D, hD⟩ : ∃ D, D = min (Ty.mk kind name labels kids).height (4 + 1) := ⟨_, rfl⟩
  obtain ⟨Q, hQ⟩ : ∃ Q, Q = (Ty.mk kind name labels kids).parts := ⟨_, rfl⟩
  have HDE := Lib.hid hD
  have HQE := Lib.hid hQ
  have h5 : D ≤ 5 := by rw [hD]; exact HD.out
  have h4 : Q ≤ 4194304 := by rw [hQ]; exact HP.out
  have HF : Hid (typeOk ⟨kind, name, labels, kids⟩ = (decide (D ≤ 4) && decide (Q ≤ 24) && (Ty.mk kind name labels kids).shapes)) := by
    show _ = _
    rw [typeOk, hQ, decide_eq_decide.2 (show (Ty.mk kind name labels kids).height ≤ 4 ↔ D ≤ 4 by rw [hD]; exact HDD.out)]
  clear hD hQ HD HDD
  by_cases hd4 : D ≤ 4
  · by_cases hq : Q ≤ 24
    · have HG : Hid (typeOk ⟨kind, name, labels, kids⟩ = (Ty.mk kind name labels kids).shapes) := by show _ = _; rw [HF.out, decide_eq_true hd4, decide_eq_true hq]; rfl
      go_enter Tryz.func84, Tryz.ntmps84
      go_wp2_with fail
      obtain ⟨w0, hw0⟩ : ∃ W, W = w.alloc (.cells #[.int .i64 kind, .string name, labelsV, kidsV] 60) := ⟨_, rfl⟩
      rw [← hw0]
      have bA : Blk w0 w.heap.size 60 #[.int .i64 kind, .string name, labelsV, kidsV] := by rw [hw0]; exact Blk.new w _ _
      have hB0 : Below w.heap.size w w0 := by rw [hw0]; exact (Below.refl _ _).alloc (Nat.le_refl _) _
      clear hw0
      have RC : Hid (RepC w0 B (Ty.pd ⟨kind, name, labels, kids⟩) [.int .i64 kind, .string name, labelsV, kidsV]) := Ty.close_ (R_labels.out.below (hB0.mono hB)) (R_kids.out.below (hB0.mono hB))
      have hBs := Nat.le_trans hB hB0.size
      have H1 := Lib.hid (implDeep_all ⟨kind, name, labels, kids⟩ B [.int .i64 kind, .string name, labelsV, kidsV] w0 4 (by omega) hBs RC.out)
      rw [← HDE.out] at H1
      refine H1.out.mono ?_
      rintro e w1 ⟨rfl, hb1⟩
      have hB1 := hB0.trans (hb1.mono hB0.size)
      have bA1 := bA.step hb1
      clear bA
      have a1_0 : w1.cell? ⟨w.heap.size, 0, none⟩ = some (.int .i64 kind) := bA1.cell 0
      have a1_1 : w1.cell? ⟨w.heap.size, 1, none⟩ = some (.string name) := bA1.cell 1
      have a1_2 : w1.cell? ⟨w.heap.size, 2, none⟩ = some labelsV := bA1.cell 2
      have a1_3 : w1.cell? ⟨w.heap.size, 3, none⟩ = some kidsV := bA1.cell 3
      go_wp2_with fail
      have H2 := Lib.hid (implParts_all ⟨kind, name, labels, kids⟩ B [.int .i64 kind, .string name, labelsV, kidsV] w1 HP.out (Nat.le_trans hBs hb1.size) (RC.out.below (hb1.mono hBs)))
      rw [← HQE.out] at H2
      refine H2.out.mono ?_
      rintro e w2 ⟨rfl, hb2⟩
      have hB2 := hB1.trans (hb2.mono hB1.size)
      have bA2 := bA1.step hb2
      clear bA1
      have a2_0 : w2.cell? ⟨w.heap.size, 0, none⟩ = some (.int .i64 kind) := bA2.cell 0
      have a2_1 : w2.cell? ⟨w.heap.size, 1, none⟩ = some (.string name) := bA2.cell 1
      have a2_2 : w2.cell? ⟨w.heap.size, 2, none⟩ = some labelsV := bA2.cell 2
      have a2_3 : w2.cell? ⟨w.heap.size, 3, none⟩ = some kidsV := bA2.cell 3
      go_wp2_with fail
      refine (implShape_all ⟨kind, name, labels, kids⟩ B [.int .i64 kind, .string name, labelsV, kidsV] w2 (Nat.le_trans hBs (Nat.le_trans hb1.size hb2.size)) HWF.out ((RC.out.below (hb1.mono hBs)).below (hb2.mono (Nat.le_trans hBs hb1.size)))).mono ?_
      rintro e w3 ⟨rfl, hb3⟩
      go_wp2_with fail
      go_ret
      exact ⟨ret_bool HG.out.symm, hB2.trans (hb3.mono hB2.size)⟩
    · have HG : Hid (typeOk ⟨kind, name, labels, kids⟩ = false) := by show _ = _; rw [HF.out, decide_eq_true hd4, decide_eq_false hq]; rfl
      go_enter Tryz.func84, Tryz.ntmps84
      go_wp2_with fail
      obtain ⟨w0, hw0⟩ : ∃ W, W = w.alloc (.cells #[.int .i64 kind, .string name, labelsV, kidsV] 60) := ⟨_, rfl⟩
      rw [← hw0]
      have bA : Blk w0 w.heap.size 60 #[.int .i64 kind, .string name, labelsV, kidsV] := by rw [hw0]; exact Blk.new w _ _
      have hB0 : Below w.heap.size w w0 := by rw [hw0]; exact (Below.refl _ _).alloc (Nat.le_refl _) _
      clear hw0
      have RC : Hid (RepC w0 B (Ty.pd ⟨kind, name, labels, kids⟩) [.int .i64 kind, .string name, labelsV, kidsV]) := Ty.close_ (R_labels.out.below (hB0.mono hB)) (R_kids.out.below (hB0.mono hB))
      have hBs := Nat.le_trans hB hB0.size
      have H1 := Lib.hid (implDeep_all ⟨kind, name, labels, kids⟩ B [.int .i64 kind, .string name, labelsV, kidsV] w0 4 (by omega) hBs RC.out)
      rw [← HDE.out] at H1
      refine H1.out.mono ?_
      rintro e w1 ⟨rfl, hb1⟩
      have hB1 := hB0.trans (hb1.mono hB0.size)
      have bA1 := bA.step hb1
      clear bA
      have a1_0 : w1.cell? ⟨w.heap.size, 0, none⟩ = some (.int .i64 kind) := bA1.cell 0
      have a1_1 : w1.cell? ⟨w.heap.size, 1, none⟩ = some (.string name) := bA1.cell 1
      have a1_2 : w1.cell? ⟨w.heap.size, 2, none⟩ = some labelsV := bA1.cell 2
      have a1_3 : w1.cell? ⟨w.heap.size, 3, none⟩ = some kidsV := bA1.cell 3
      go_wp2_with fail
      have H2 := Lib.hid (implParts_all ⟨kind, name, labels, kids⟩ B [.int .i64 kind, .string name, labelsV, kidsV] w1 HP.out (Nat.le_trans hBs hb1.size) (RC.out.below (hb1.mono hBs)))
      rw [← HQE.out] at H2
      refine H2.out.mono ?_
      rintro e w2 ⟨rfl, hb2⟩
      have hB2 := hB1.trans (hb2.mono hB1.size)
      have bA2 := bA1.step hb2
      clear bA1
      have a2_0 : w2.cell? ⟨w.heap.size, 0, none⟩ = some (.int .i64 kind) := bA2.cell 0
      have a2_1 : w2.cell? ⟨w.heap.size, 1, none⟩ = some (.string name) := bA2.cell 1
      have a2_2 : w2.cell? ⟨w.heap.size, 2, none⟩ = some labelsV := bA2.cell 2
      have a2_3 : w2.cell? ⟨w.heap.size, 3, none⟩ = some kidsV := bA2.cell 3
      go_wp2_with fail
      go_ret
      exact ⟨ret_bool HG.out.symm, hB2⟩
  · have HG : Hid (typeOk ⟨kind, name, labels, kids⟩ = false) := by show _ = _; rw [HF.out, decide_eq_false hd4]; rfl
    go_enter Tryz.func84, Tryz.ntmps84
    go_wp2_with fail
    obtain ⟨w0, hw0⟩ : ∃ W, W = w.alloc (.cells #[.int .i64 kind, .string name, labelsV, kidsV] 60) := ⟨_, rfl⟩
    rw [← hw0]
    have bA : Blk w0 w.heap.size 60 #[.int .i64 kind, .string name, labelsV, kidsV] := by rw [hw0]; exact Blk.new w _ _
    have hB0 : Below w.heap.size w w0 := by rw [hw0]; exact (Below.refl _ _).alloc (Nat.le_refl _) _
    clear hw0
    have RC : Hid (RepC w0 B (Ty.pd ⟨kind, name, labels, kids⟩) [.int .i64 kind, .string name, labelsV, kidsV]) := Ty.close_ (R_labels.out.below (hB0.mono hB)) (R_kids.out.below (hB0.mono hB))
    have hBs := Nat.le_trans hB hB0.size
    have H1 := Lib.hid (implDeep_all ⟨kind, name, labels, kids⟩ B [.int .i64 kind, .string name, labelsV, kidsV] w0 4 (by omega) hBs RC.out)
    rw [← HDE.out] at H1
    refine H1.out.mono ?_
    rintro e w1 ⟨rfl, hb1⟩
    have hB1 := hB0.trans (hb1.mono hB0.size)
    have bA1 := bA.step hb1
    clear bA
    have a1_0 : w1.cell? ⟨w.heap.size, 0, none⟩ = some (.int .i64 kind) := bA1.cell 0
    have a1_1 : w1.cell? ⟨w.heap.size, 1, none⟩ = some (.string name) := bA1.cell 1
    have a1_2 : w1.cell? ⟨w.heap.size, 2, none⟩ = some labelsV := bA1.cell 2
    have a1_3 : w1.cell? ⟨w.heap.size, 3, none⟩ = some kidsV := bA1.cell 3
    go_wp2_with fail
    go_ret
    exact ⟨ret_bool HG.out.symm, hB1⟩
end Go.Proofs.YtbafphecjijdmaaGreatDoor

