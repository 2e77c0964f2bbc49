/-
  Why one type cannot stand for another: impl.whyNot (by program: gen_why.py).
-/
import Derived.Test.YtbafphecjijdmaaGreatDoorWyI
import Derived.Deep.RegionHeld3
namespace Go.Proofs.YtbafphecjijdmaaGreatDoor
open Go.RowKit
set_option linter.unusedVariables false
set_option linter.unusedSimpArgs false
set_option linter.unnecessarySimpa false
set_option maxRecDepth 16000


set_option maxHeartbeats 12800000 in
theorem implWhy_12 {rec : Ty → Ty → ByteArray → Why} {n M : Nat} (hM : M ≤ 1000000) (hrec : WhyC 86 rec n M) {name Zname at_ : ByteArray} {labels Zlabels : List ByteArray} {kids Zkids : List Ty} (hat : at_.size + 32 ≤ M) {B : Nat} {cs ds : List Value} {w : World} (hB : B ≤ w.heap.size) (hT : TabP w) (hx : OkT (n + 1) ⟨12, name, labels, kids⟩) (hy : OkT (n + 1) ⟨12, Zname, Zlabels, Zkids⟩) (h : RepC w B (Ty.pd ⟨12, name, labels, kids⟩) cs) (k : RepC w B (Ty.pd ⟨12, Zname, Zlabels, Zkids⟩) ds) :
    Calls Tryz.prog 86 #[.agg cs.toArray, .agg ds.toArray, .string at_] w fun e w' => WQ (whyK rec 12 name labels kids Zname Zlabels Zkids at_) w e w' := by
  have HHX := Lib.hid hx
  have HHY := Lib.hid hy
  obtain ⟨labelsV, kidsV, rfl, r_labels, r_kids⟩ := Ty.open_ h
  obtain ⟨labelsA, labelsN, labelsC, rfl⟩ := r_labels.form
  have R_labels := Lib.hid r_labels
  clear r_labels
  obtain ⟨kidsA, kidsN, kidsC, rfl⟩ := r_kids.form
  have R_kids := Lib.hid r_kids
  clear r_kids
  obtain ⟨ZlabelsV, ZkidsV, rfl, r_Zlabels, r_Zkids⟩ := Ty.open_ k
  obtain ⟨ZlabelsA, ZlabelsN, ZlabelsC, rfl⟩ := r_Zlabels.form
  have R_Zlabels := Lib.hid r_Zlabels
  clear r_Zlabels
  obtain ⟨ZkidsA, ZkidsN, ZkidsC, rfl⟩ := r_Zkids.form
  have R_Zkids := Lib.hid r_Zkids
  clear r_Zkids
  clear h k
  have HOKx := Lib.hid (okT_kids hx)
  have HOKy := Lib.hid (okT_kids hy)
  have SX := Lib.hid (shF hx.2)
  have SY := Lib.hid (shF hy.2)
  clear hx hy
  have HREC := Lib.hid hrec
  clear hrec
  obtain ⟨R, hR⟩ : ∃ R : Why, R = whyK rec 12 name labels kids Zname Zlabels Zkids at_ := ⟨_, rfl⟩
  rw [← hR]
  have HR := Lib.hid hR
  clear hR
  obtain ⟨_, _, _, he, hn_kids, hm_kids, hat_kids⟩ := rep_row Ty.pd_length (by decide) R_kids.out
  injection he with e1 e2 e3
  subst e1 e2 e3
  unfold maxLen at hm_kids
  have HN_kids := Lib.hid hn_kids
  clear hn_kids
  obtain ⟨_, _, _, he, hn_Zkids, hm_Zkids, hat_Zkids⟩ := rep_row Ty.pd_length (by decide) R_Zkids.out
  injection he with e1 e2 e3
  subst e1 e2 e3
  unfold maxLen at hm_Zkids
  have HN_Zkids := Lib.hid hn_Zkids
  clear hn_Zkids
  have hkn : kidsN = 1 := by have := kids_one (by decide) SX.out.right; have := HN_kids.out; omega
  have hkz : ZkidsN = 1 := by have := kids_one (by decide) SY.out.right; have := HN_Zkids.out; omega
  have hpos : 0 < kidsN := by omega
  have hposz : 0 < ZkidsN := by omega
  have hposI : (0 : Int) < (kidsN : Int) := by omega
  have hposzI : (0 : Int) < (ZkidsN : Int) := by omega
  clear hkn hkz
  obtain ⟨w0, hw0, bA, bC, bR, hB0, hs0⟩ := box3 w 60 #[.int .i64 12, .string name, .slice labelsA labelsN labelsC, .slice kidsA kidsN kidsC] #[.int .i64 12, .string Zname, .slice ZlabelsA ZlabelsN ZlabelsC, .slice ZkidsA ZkidsN ZkidsC]
  have HW0 := Lib.hid hw0
  clear hw0
  go_enter Tryz.func86, Tryz.ntmps86
  go_wp2_with fail
  rw [← HW0.out]
  clear HW0
  have a0 : w0.cell? ⟨w.heap.size, 0, none⟩ = some (.int .i64 12) := bA.cell 0
  have z0 : w0.cell? ⟨w.heap.size + 1, 0, none⟩ = some (.int .i64 12) := bC.cell 0
  refine (implNumRange_v 12 w0 (by rfl) (by rfl) (by rfl)).mono ?_
  rintro e wn ⟨rfl, hwn⟩
  subst hwn
  go_wp2_with fail
  refine (implNumRange_v 12 w0 (by rfl) (by rfl) (by rfl)).mono ?_
  rintro e wn ⟨rfl, hwn⟩
  subst hwn
  have a3 : w0.cell? ⟨w.heap.size, 3, none⟩ = some (.slice kidsA kidsN kidsC) := bA.cell 3
  have z3 : w0.cell? ⟨w.heap.size + 1, 3, none⟩ = some (.slice ZkidsA ZkidsN ZkidsC) := bC.cell 3
  obtain ⟨g, off, rfl, hg_kids, hcell_kids⟩ := hat_kids (by omega)
  obtain ⟨x, hx_x, hmem_x⟩ := at_lt HN_kids.out hpos
  obtain ⟨x_kind, x_name, x_labels, x_kids⟩ := x
  obtain ⟨x_labelsV, x_kidsV, c_x_kind, c_x_name, c_x_labels, c_x_kids, R_x_labels, R_x_kids⟩ := tyAt (k := 0) (a0 := off) (a1 := off + 1) (a2 := off + 2) (a3 := off + 3) (hB0.mono (Nat.le_refl _)) hg_kids hB hcell_kids hx_x ⟨rfl, rfl, rfl, rfl⟩
  replace R_x_labels := Lib.hid R_x_labels
  replace R_x_kids := Lib.hid R_x_kids
  have HX_x := Lib.hid hx_x
  have HM_x := Lib.hid hmem_x
  clear hx_x hmem_x
  obtain ⟨g2, off2, rfl, hg_Zkids, hcell_Zkids⟩ := hat_Zkids (by omega)
  obtain ⟨y, hx_y, hmem_y⟩ := at_lt HN_Zkids.out hposz
  obtain ⟨y_kind, y_name, y_labels, y_kids⟩ := y
  obtain ⟨y_labelsV, y_kidsV, c_y_kind, c_y_name, c_y_labels, c_y_kids, R_y_labels, R_y_kids⟩ := tyAt (k := 0) (a0 := off2) (a1 := off2 + 1) (a2 := off2 + 2) (a3 := off2 + 3) (hB0.mono (Nat.le_refl _)) hg_Zkids hB hcell_Zkids hx_y ⟨rfl, rfl, rfl, rfl⟩
  replace R_y_labels := Lib.hid R_y_labels
  replace R_y_kids := Lib.hid R_y_kids
  have HX_y := Lib.hid hx_y
  have HM_y := Lib.hid hmem_y
  clear hx_y hmem_y
  have y_p1 : (9223372036854775807 < at_.size + (⟨#[91, 93]⟩ : ByteArray).size) = False := eq_false (by have z_ : (⟨#[91, 93]⟩ : ByteArray).size = 2 := rfl; omega)
  have x_p1 : (9223372036854775807 < at_.size + 2) = False := eq_false (by omega)
  obtain ⟨p1, e_p1⟩ : ∃ p, at_ ++ (⟨#[91, 93]⟩ : ByteArray) = p := ⟨_, rfl⟩
  have l_p1 : p1.size ≤ at_.size + 2 := by rw [← e_p1, ByteArray.size_append]; have z_ : (⟨#[91, 93]⟩ : ByteArray).size = 2 := rfl; omega
  obtain ⟨R2, hR2⟩ : ∃ r, rec ⟨x_kind, x_name, x_labels, x_kids⟩ ⟨y_kind, y_name, y_labels, y_kids⟩ p1 = r := ⟨_, rfl⟩
  have HC := fun (V : World) (hV : Keep (w.heap.size + 1 + 1) (w.heap.size + 1 + 1 + 1) w0 V) => HREC.out ⟨x_kind, x_name, x_labels, x_kids⟩ ⟨y_kind, y_name, y_labels, y_kids⟩ p1 B [.int .i64 x_kind, .string x_name, x_labelsV, x_kidsV] [.int .i64 y_kind, .string y_name, y_labelsV, y_kidsV] V (Nat.le_trans (Nat.le_trans hB hB0.size) hV.size) (hT.below (hB0.trans (kb hV (by omega)))) (HOKx.out _ HM_x.out) (HOKy.out _ HM_y.out) (by omega) ((Ty.close_ R_x_labels.out R_x_kids.out).below (kb hV (by omega))) ((Ty.close_ R_y_labels.out R_y_kids.out).below (kb hV (by omega)))
  unfold WQ at HC
  rw [hR2] at HC
  obtain ⟨RK, RS, RN, HRK, HRS, HRN⟩ := why3 R2
  rw [HRK.out, HRS.out, HRN.out] at HC
  replace HC := Lib.hid HC
  have HR2 := Lib.hid hR2
  clear hR2
  have HF : Hid (R = R2) := by show _ = _; rw [HR.out, whyK_12, kid0_at HX_x.out HX_y.out, ← HR2.out, ← e_p1]
  have HS : Hid (∀ V, Keep (w.heap.size + 1 + 1) (w.heap.size + 1 + 1 + 1) w0 V → V.cell? ⟨w.heap.size, 3, none⟩ = some (.slice (some ⟨g, off, none⟩) kidsN kidsC) ∧ V.cell? ⟨w.heap.size + 1, 3, none⟩ = some (.slice (some ⟨g2, off2, none⟩) ZkidsN ZkidsC) ∧ V.cell? ⟨g, off, none⟩ = some (.int .i64 x_kind) ∧ V.cell? ⟨g, off + 1, none⟩ = some (.string x_name) ∧ V.cell? ⟨g, off + 2, none⟩ = some (x_labelsV) ∧ V.cell? ⟨g, off + 3, none⟩ = some (x_kidsV) ∧ V.cell? ⟨g2, off2, none⟩ = some (.int .i64 y_kind) ∧ V.cell? ⟨g2, off2 + 1, none⟩ = some (.string y_name) ∧ V.cell? ⟨g2, off2 + 2, none⟩ = some (y_labelsV) ∧ V.cell? ⟨g2, off2 + 3, none⟩ = some (y_kidsV)) := Lib.hid fun V hV => ⟨(hV.cell (p := ⟨w.heap.size, 3, none⟩) (by simp only; omega) (by simp only; omega)).trans a3, (hV.cell (p := ⟨w.heap.size + 1, 3, none⟩) (by simp only; omega) (by simp only; omega)).trans z3, (hV.cell (p := ⟨g, off, none⟩) (by simp only; omega) (by simp only; omega)).trans c_x_kind, (hV.cell (p := ⟨g, off + 1, none⟩) (by simp only; omega) (by simp only; omega)).trans c_x_name, (hV.cell (p := ⟨g, off + 2, none⟩) (by simp only; omega) (by simp only; omega)).trans c_x_labels, (hV.cell (p := ⟨g, off + 3, none⟩) (by simp only; omega) (by simp only; omega)).trans c_x_kids, (hV.cell (p := ⟨g2, off2, none⟩) (by simp only; omega) (by simp only; omega)).trans c_y_kind, (hV.cell (p := ⟨g2, off2 + 1, none⟩) (by simp only; omega) (by simp only; omega)).trans c_y_name, (hV.cell (p := ⟨g2, off2 + 2, none⟩) (by simp only; omega) (by simp only; omega)).trans c_y_labels, (hV.cell (p := ⟨g2, off2 + 3, none⟩) (by simp only; omega) (by simp only; omega)).trans c_y_kids⟩
  clear bA bC
  go_wp2_with fail
  go_region_held3 (fun w' => w'.cell? ⟨w.heap.size, 3, none⟩ = some (.slice (some ⟨g, off, none⟩) kidsN kidsC) ∧ w'.cell? ⟨w.heap.size + 1, 3, none⟩ = some (.slice (some ⟨g2, off2, none⟩) ZkidsN ZkidsC) ∧ w'.cell? ⟨g, off, none⟩ = some (.int .i64 x_kind) ∧ w'.cell? ⟨g, off + 1, none⟩ = some (.string x_name) ∧ w'.cell? ⟨g, off + 2, none⟩ = some (x_labelsV) ∧ w'.cell? ⟨g, off + 3, none⟩ = some (x_kidsV) ∧ w'.cell? ⟨g2, off2, none⟩ = some (.int .i64 y_kind) ∧ w'.cell? ⟨g2, off2 + 1, none⟩ = some (.string y_name) ∧ w'.cell? ⟨g2, off2 + 2, none⟩ = some (y_labelsV) ∧ w'.cell? ⟨g2, off2 + 3, none⟩ = some (y_kidsV))
    (first | exact HS.out _ (by repeat (first | exact hq1 | exact hq2 | exact Keep.refl _ _ _ | refine Keep.drew ?_ | refine Keep.alloc ?_ _ | refine Keep.setAt ?_ _ _ | refine Keep.newAt ?_ (Nat.le_refl _) _ _ | refine Keep.newAt ?_ hbWd.size _ _ | refine Keep.newAt ?_ hbW.size _ _)))
    (first | (go_at_call 86; refine (HC.out _ (by repeat (first | exact hq1 | exact hq2 | exact Keep.refl _ _ _ | refine Keep.drew ?_ | refine Keep.alloc ?_ _ | refine Keep.setAt ?_ _ _ | refine Keep.newAt ?_ (Nat.le_refl _) _ _ | refine Keep.newAt ?_ hbWd.size _ _ | refine Keep.newAt ?_ hbW.size _ _))).mono ?_; rintro e wq ⟨rfl, hbq⟩; have hbW := (Below.refl w0.heap.size w0).drew.trans hbq; have hq1 : Keep (w.heap.size + 1 + 1) (w.heap.size + 1 + 1 + 1) w0 wq := Keep.of_below hbW; have bRq := bR.step hbW; have r0 : wq.cell? ⟨w.heap.size + 1 + 1, 0, none⟩ = some (.int .i64 0) := bRq.cell 0; have r1 : wq.cell? ⟨w.heap.size + 1 + 1, 1, none⟩ = some (.string { data := #[] }) := bRq.cell 1; have f0 := bRq.frozen 0; have f1 := bRq.frozen 1))
  all_goals
    have hBq := hB0.trans (hbW.mono (by omega))
    have hsq := hbW.size
    try go_wp2_with fail
    obtain ⟨n0, n1, nB⟩ := ret3 bRq hBq (by omega) (RK) (RS)
    exact bodyPost_ret (v := .tuple #[.agg #[.int .i64 RK, .string RS], .bool RN]) (by simp [results, Tryz.results86, go_sem, n0, n1]) rfl ⟨ret_why (by rw [HF.out, HRK.out]) (by rw [HF.out, HRS.out]) (by rw [HF.out, HRN.out]), nB⟩
set_option maxHeartbeats 12800000 in
theorem implWhy_13 {rec : Ty → Ty → ByteArray → Why} {n M : Nat} (hM : M ≤ 1000000) (hrec : WhyC 86 rec n M) {name Zname at_ : ByteArray} {labels Zlabels : List ByteArray} {kids Zkids : List Ty} (hat : at_.size + 32 ≤ M) {B : Nat} {cs ds : List Value} {w : World} (hB : B ≤ w.heap.size) (hT : TabP w) (hx : OkT (n + 1) ⟨13, name, labels, kids⟩) (hy : OkT (n + 1) ⟨13, Zname, Zlabels, Zkids⟩) (h : RepC w B (Ty.pd ⟨13, name, labels, kids⟩) cs) (k : RepC w B (Ty.pd ⟨13, Zname, Zlabels, Zkids⟩) ds) :
    Calls Tryz.prog 86 #[.agg cs.toArray, .agg ds.toArray, .string at_] w fun e w' => WQ (whyK rec 13 name labels kids Zname Zlabels Zkids at_) w e w' := by
  have HHX := Lib.hid hx
  have HHY := Lib.hid hy
  obtain ⟨labelsV, kidsV, rfl, r_labels, r_kids⟩ := Ty.open_ h
  obtain ⟨labelsA, labelsN, labelsC, rfl⟩ := r_labels.form
  have R_labels := Lib.hid r_labels
  clear r_labels
  obtain ⟨kidsA, kidsN, kidsC, rfl⟩ := r_kids.form
  have R_kids := Lib.hid r_kids
  clear r_kids
  obtain ⟨ZlabelsV, ZkidsV, rfl, r_Zlabels, r_Zkids⟩ := Ty.open_ k
  obtain ⟨ZlabelsA, ZlabelsN, ZlabelsC, rfl⟩ := r_Zlabels.form
  have R_Zlabels := Lib.hid r_Zlabels
  clear r_Zlabels
  obtain ⟨ZkidsA, ZkidsN, ZkidsC, rfl⟩ := r_Zkids.form
  have R_Zkids := Lib.hid r_Zkids
  clear r_Zkids
  clear h k
  have HOKx := Lib.hid (okT_kids hx)
  have HOKy := Lib.hid (okT_kids hy)
  have SX := Lib.hid (shF hx.2)
  have SY := Lib.hid (shF hy.2)
  clear hx hy
  have HREC := Lib.hid hrec
  clear hrec
  obtain ⟨R, hR⟩ : ∃ R : Why, R = whyK rec 13 name labels kids Zname Zlabels Zkids at_ := ⟨_, rfl⟩
  rw [← hR]
  have HR := Lib.hid hR
  clear hR
  obtain ⟨_, _, _, he, hn_kids, hm_kids, hat_kids⟩ := rep_row Ty.pd_length (by decide) R_kids.out
  injection he with e1 e2 e3
  subst e1 e2 e3
  unfold maxLen at hm_kids
  have HN_kids := Lib.hid hn_kids
  clear hn_kids
  obtain ⟨_, _, _, he, hn_Zkids, hm_Zkids, hat_Zkids⟩ := rep_row Ty.pd_length (by decide) R_Zkids.out
  injection he with e1 e2 e3
  subst e1 e2 e3
  unfold maxLen at hm_Zkids
  have HN_Zkids := Lib.hid hn_Zkids
  clear hn_Zkids
  have hkn : kidsN = 1 := by have := kids_one (by decide) SX.out.right; have := HN_kids.out; omega
  have hkz : ZkidsN = 1 := by have := kids_one (by decide) SY.out.right; have := HN_Zkids.out; omega
  have hpos : 0 < kidsN := by omega
  have hposz : 0 < ZkidsN := by omega
  have hposI : (0 : Int) < (kidsN : Int) := by omega
  have hposzI : (0 : Int) < (ZkidsN : Int) := by omega
  clear hkn hkz
  obtain ⟨w0, hw0, bA, bC, bR, hB0, hs0⟩ := box3 w 60 #[.int .i64 13, .string name, .slice labelsA labelsN labelsC, .slice kidsA kidsN kidsC] #[.int .i64 13, .string Zname, .slice ZlabelsA ZlabelsN ZlabelsC, .slice ZkidsA ZkidsN ZkidsC]
  have HW0 := Lib.hid hw0
  clear hw0
  go_enter Tryz.func86, Tryz.ntmps86
  go_wp2_with fail
  rw [← HW0.out]
  clear HW0
  have a0 : w0.cell? ⟨w.heap.size, 0, none⟩ = some (.int .i64 13) := bA.cell 0
  have z0 : w0.cell? ⟨w.heap.size + 1, 0, none⟩ = some (.int .i64 13) := bC.cell 0
  refine (implNumRange_v 13 w0 (by rfl) (by rfl) (by rfl)).mono ?_
  rintro e wn ⟨rfl, hwn⟩
  subst hwn
  go_wp2_with fail
  refine (implNumRange_v 13 w0 (by rfl) (by rfl) (by rfl)).mono ?_
  rintro e wn ⟨rfl, hwn⟩
  subst hwn
  have a3 : w0.cell? ⟨w.heap.size, 3, none⟩ = some (.slice kidsA kidsN kidsC) := bA.cell 3
  have z3 : w0.cell? ⟨w.heap.size + 1, 3, none⟩ = some (.slice ZkidsA ZkidsN ZkidsC) := bC.cell 3
  obtain ⟨g, off, rfl, hg_kids, hcell_kids⟩ := hat_kids (by omega)
  obtain ⟨x, hx_x, hmem_x⟩ := at_lt HN_kids.out hpos
  obtain ⟨x_kind, x_name, x_labels, x_kids⟩ := x
  obtain ⟨x_labelsV, x_kidsV, c_x_kind, c_x_name, c_x_labels, c_x_kids, R_x_labels, R_x_kids⟩ := tyAt (k := 0) (a0 := off) (a1 := off + 1) (a2 := off + 2) (a3 := off + 3) (hB0.mono (Nat.le_refl _)) hg_kids hB hcell_kids hx_x ⟨rfl, rfl, rfl, rfl⟩
  replace R_x_labels := Lib.hid R_x_labels
  replace R_x_kids := Lib.hid R_x_kids
  have HX_x := Lib.hid hx_x
  have HM_x := Lib.hid hmem_x
  clear hx_x hmem_x
  obtain ⟨g2, off2, rfl, hg_Zkids, hcell_Zkids⟩ := hat_Zkids (by omega)
  obtain ⟨y, hx_y, hmem_y⟩ := at_lt HN_Zkids.out hposz
  obtain ⟨y_kind, y_name, y_labels, y_kids⟩ := y
  obtain ⟨y_labelsV, y_kidsV, c_y_kind, c_y_name, c_y_labels, c_y_kids, R_y_labels, R_y_kids⟩ := tyAt (k := 0) (a0 := off2) (a1 := off2 + 1) (a2 := off2 + 2) (a3 := off2 + 3) (hB0.mono (Nat.le_refl _)) hg_Zkids hB hcell_Zkids hx_y ⟨rfl, rfl, rfl, rfl⟩
  replace R_y_labels := Lib.hid R_y_labels
  replace R_y_kids := Lib.hid R_y_kids
  have HX_y := Lib.hid hx_y
  have HM_y := Lib.hid hmem_y
  clear hx_y hmem_y
  have y_p1 : (9223372036854775807 < at_.size + (⟨#[63]⟩ : ByteArray).size) = False := eq_false (by have z_ : (⟨#[63]⟩ : ByteArray).size = 1 := rfl; omega)
  have x_p1 : (9223372036854775807 < at_.size + 1) = False := eq_false (by omega)
  obtain ⟨p1, e_p1⟩ : ∃ p, at_ ++ (⟨#[63]⟩ : ByteArray) = p := ⟨_, rfl⟩
  have l_p1 : p1.size ≤ at_.size + 1 := by rw [← e_p1, ByteArray.size_append]; have z_ : (⟨#[63]⟩ : ByteArray).size = 1 := rfl; omega
  obtain ⟨R2, hR2⟩ : ∃ r, rec ⟨x_kind, x_name, x_labels, x_kids⟩ ⟨y_kind, y_name, y_labels, y_kids⟩ p1 = r := ⟨_, rfl⟩
  have HC := fun (V : World) (hV : Keep (w.heap.size + 1 + 1) (w.heap.size + 1 + 1 + 1) w0 V) => HREC.out ⟨x_kind, x_name, x_labels, x_kids⟩ ⟨y_kind, y_name, y_labels, y_kids⟩ p1 B [.int .i64 x_kind, .string x_name, x_labelsV, x_kidsV] [.int .i64 y_kind, .string y_name, y_labelsV, y_kidsV] V (Nat.le_trans (Nat.le_trans hB hB0.size) hV.size) (hT.below (hB0.trans (kb hV (by omega)))) (HOKx.out _ HM_x.out) (HOKy.out _ HM_y.out) (by omega) ((Ty.close_ R_x_labels.out R_x_kids.out).below (kb hV (by omega))) ((Ty.close_ R_y_labels.out R_y_kids.out).below (kb hV (by omega)))
  unfold WQ at HC
  rw [hR2] at HC
  obtain ⟨RK, RS, RN, HRK, HRS, HRN⟩ := why3 R2
  rw [HRK.out, HRS.out, HRN.out] at HC
  replace HC := Lib.hid HC
  have HR2 := Lib.hid hR2
  clear hR2
  have HF : Hid (R = R2) := by show _ = _; rw [HR.out, whyK_13, kid0_at HX_x.out HX_y.out, ← HR2.out, ← e_p1]
  have HS : Hid (∀ V, Keep (w.heap.size + 1 + 1) (w.heap.size + 1 + 1 + 1) w0 V → V.cell? ⟨w.heap.size, 3, none⟩ = some (.slice (some ⟨g, off, none⟩) kidsN kidsC) ∧ V.cell? ⟨w.heap.size + 1, 3, none⟩ = some (.slice (some ⟨g2, off2, none⟩) ZkidsN ZkidsC) ∧ V.cell? ⟨g, off, none⟩ = some (.int .i64 x_kind) ∧ V.cell? ⟨g, off + 1, none⟩ = some (.string x_name) ∧ V.cell? ⟨g, off + 2, none⟩ = some (x_labelsV) ∧ V.cell? ⟨g, off + 3, none⟩ = some (x_kidsV) ∧ V.cell? ⟨g2, off2, none⟩ = some (.int .i64 y_kind) ∧ V.cell? ⟨g2, off2 + 1, none⟩ = some (.string y_name) ∧ V.cell? ⟨g2, off2 + 2, none⟩ = some (y_labelsV) ∧ V.cell? ⟨g2, off2 + 3, none⟩ = some (y_kidsV)) := Lib.hid fun V hV => ⟨(hV.cell (p := ⟨w.heap.size, 3, none⟩) (by simp only; omega) (by simp only; omega)).trans a3, (hV.cell (p := ⟨w.heap.size + 1, 3, none⟩) (by simp only; omega) (by simp only; omega)).trans z3, (hV.cell (p := ⟨g, off, none⟩) (by simp only; omega) (by simp only; omega)).trans c_x_kind, (hV.cell (p := ⟨g, off + 1, none⟩) (by simp only; omega) (by simp only; omega)).trans c_x_name, (hV.cell (p := ⟨g, off + 2, none⟩) (by simp only; omega) (by simp only; omega)).trans c_x_labels, (hV.cell (p := ⟨g, off + 3, none⟩) (by simp only; omega) (by simp only; omega)).trans c_x_kids, (hV.cell (p := ⟨g2, off2, none⟩) (by simp only; omega) (by simp only; omega)).trans c_y_kind, (hV.cell (p := ⟨g2, off2 + 1, none⟩) (by simp only; omega) (by simp only; omega)).trans c_y_name, (hV.cell (p := ⟨g2, off2 + 2, none⟩) (by simp only; omega) (by simp only; omega)).trans c_y_labels, (hV.cell (p := ⟨g2, off2 + 3, none⟩) (by simp only; omega) (by simp only; omega)).trans c_y_kids⟩
  clear bA bC
  go_wp2_with fail
  go_region_held3 (fun w' => w'.cell? ⟨w.heap.size, 3, none⟩ = some (.slice (some ⟨g, off, none⟩) kidsN kidsC) ∧ w'.cell? ⟨w.heap.size + 1, 3, none⟩ = some (.slice (some ⟨g2, off2, none⟩) ZkidsN ZkidsC) ∧ w'.cell? ⟨g, off, none⟩ = some (.int .i64 x_kind) ∧ w'.cell? ⟨g, off + 1, none⟩ = some (.string x_name) ∧ w'.cell? ⟨g, off + 2, none⟩ = some (x_labelsV) ∧ w'.cell? ⟨g, off + 3, none⟩ = some (x_kidsV) ∧ w'.cell? ⟨g2, off2, none⟩ = some (.int .i64 y_kind) ∧ w'.cell? ⟨g2, off2 + 1, none⟩ = some (.string y_name) ∧ w'.cell? ⟨g2, off2 + 2, none⟩ = some (y_labelsV) ∧ w'.cell? ⟨g2, off2 + 3, none⟩ = some (y_kidsV))
    (first | exact HS.out _ (by repeat (first | exact hq1 | exact hq2 | exact Keep.refl _ _ _ | refine Keep.drew ?_ | refine Keep.alloc ?_ _ | refine Keep.setAt ?_ _ _ | refine Keep.newAt ?_ (Nat.le_refl _) _ _ | refine Keep.newAt ?_ hbWd.size _ _ | refine Keep.newAt ?_ hbW.size _ _)))
    (first | (go_at_call 86; refine (HC.out _ (by repeat (first | exact hq1 | exact hq2 | exact Keep.refl _ _ _ | refine Keep.drew ?_ | refine Keep.alloc ?_ _ | refine Keep.setAt ?_ _ _ | refine Keep.newAt ?_ (Nat.le_refl _) _ _ | refine Keep.newAt ?_ hbWd.size _ _ | refine Keep.newAt ?_ hbW.size _ _))).mono ?_; rintro e wq ⟨rfl, hbq⟩; have hbW := (Below.refl w0.heap.size w0).drew.trans hbq; have hq1 : Keep (w.heap.size + 1 + 1) (w.heap.size + 1 + 1 + 1) w0 wq := Keep.of_below hbW; have bRq := bR.step hbW; have r0 : wq.cell? ⟨w.heap.size + 1 + 1, 0, none⟩ = some (.int .i64 0) := bRq.cell 0; have r1 : wq.cell? ⟨w.heap.size + 1 + 1, 1, none⟩ = some (.string { data := #[] }) := bRq.cell 1; have f0 := bRq.frozen 0; have f1 := bRq.frozen 1))
  all_goals
    have hBq := hB0.trans (hbW.mono (by omega))
    have hsq := hbW.size
    try go_wp2_with fail
    obtain ⟨n0, n1, nB⟩ := ret3 bRq hBq (by omega) (RK) (RS)
    exact bodyPost_ret (v := .tuple #[.agg #[.int .i64 RK, .string RS], .bool RN]) (by simp [results, Tryz.results86, go_sem, n0, n1]) rfl ⟨ret_why (by rw [HF.out, HRK.out]) (by rw [HF.out, HRS.out]) (by rw [HF.out, HRN.out]), nB⟩
set_option maxHeartbeats 12800000 in
theorem implWhy_14 {rec : Ty → Ty → ByteArray → Why} {n M : Nat} (hM : M ≤ 1000000) (hrec : WhyC 86 rec n M) {name Zname at_ : ByteArray} {labels Zlabels : List ByteArray} {kids Zkids : List Ty} (hat : at_.size + 32 ≤ M) {B : Nat} {cs ds : List Value} {w : World} (hB : B ≤ w.heap.size) (hT : TabP w) (hx : OkT (n + 1) ⟨14, name, labels, kids⟩) (hy : OkT (n + 1) ⟨14, Zname, Zlabels, Zkids⟩) (h : RepC w B (Ty.pd ⟨14, name, labels, kids⟩) cs) (k : RepC w B (Ty.pd ⟨14, Zname, Zlabels, Zkids⟩) ds) :
    Calls Tryz.prog 86 #[.agg cs.toArray, .agg ds.toArray, .string at_] w fun e w' => WQ (whyK rec 14 name labels kids Zname Zlabels Zkids at_) w e w' := by
  have HHX := Lib.hid hx
  have HHY := Lib.hid hy
  obtain ⟨labelsV, kidsV, rfl, r_labels, r_kids⟩ := Ty.open_ h
  obtain ⟨labelsA, labelsN, labelsC, rfl⟩ := r_labels.form
  have R_labels := Lib.hid r_labels
  clear r_labels
  obtain ⟨kidsA, kidsN, kidsC, rfl⟩ := r_kids.form
  have R_kids := Lib.hid r_kids
  clear r_kids
  obtain ⟨ZlabelsV, ZkidsV, rfl, r_Zlabels, r_Zkids⟩ := Ty.open_ k
  obtain ⟨ZlabelsA, ZlabelsN, ZlabelsC, rfl⟩ := r_Zlabels.form
  have R_Zlabels := Lib.hid r_Zlabels
  clear r_Zlabels
  obtain ⟨ZkidsA, ZkidsN, ZkidsC, rfl⟩ := r_Zkids.form
  have R_Zkids := Lib.hid r_Zkids
  clear r_Zkids
  clear h k
  have HOKx := Lib.hid (okT_kids hx)
  have HOKy := Lib.hid (okT_kids hy)
  have SX := Lib.hid (shF hx.2)
  have SY := Lib.hid (shF hy.2)
  clear hx hy
  have HREC := Lib.hid hrec
  clear hrec
  obtain ⟨R, hR⟩ : ∃ R : Why, R = whyK rec 14 name labels kids Zname Zlabels Zkids at_ := ⟨_, rfl⟩
  rw [← hR]
  have HR := Lib.hid hR
  clear hR
  obtain ⟨_, _, _, he, hn_kids, hm_kids, hat_kids⟩ := rep_row Ty.pd_length (by decide) R_kids.out
  injection he with e1 e2 e3
  subst e1 e2 e3
  unfold maxLen at hm_kids
  have HN_kids := Lib.hid hn_kids
  clear hn_kids
  obtain ⟨_, _, _, he, hn_Zkids, hm_Zkids, hat_Zkids⟩ := rep_row Ty.pd_length (by decide) R_Zkids.out
  injection he with e1 e2 e3
  subst e1 e2 e3
  unfold maxLen at hm_Zkids
  have HN_Zkids := Lib.hid hn_Zkids
  clear hn_Zkids
  have hkn : kidsN = 2 := by have := kids_two SX.out.right; have := HN_kids.out; omega
  have hkz : ZkidsN = 2 := by have := kids_two SY.out.right; have := HN_Zkids.out; omega
  have hpos : 0 < kidsN := by omega
  have hposz : 0 < ZkidsN := by omega
  have hposI : (0 : Int) < (kidsN : Int) := by omega
  have hposzI : (0 : Int) < (ZkidsN : Int) := by omega
  have hpos1 : 1 < kidsN := by omega
  have hposz1 : 1 < ZkidsN := by omega
  have hpos1I : (1 : Int) < (kidsN : Int) := by omega
  have hposz1I : (1 : Int) < (ZkidsN : Int) := by omega
  clear hkn hkz
  obtain ⟨w0, hw0, bA, bC, bR, hB0, hs0⟩ := box3 w 60 #[.int .i64 14, .string name, .slice labelsA labelsN labelsC, .slice kidsA kidsN kidsC] #[.int .i64 14, .string Zname, .slice ZlabelsA ZlabelsN ZlabelsC, .slice ZkidsA ZkidsN ZkidsC]
  have HW0 := Lib.hid hw0
  clear hw0
  go_enter Tryz.func86, Tryz.ntmps86
  go_wp2_with fail
  rw [← HW0.out]
  clear HW0
  have a0 : w0.cell? ⟨w.heap.size, 0, none⟩ = some (.int .i64 14) := bA.cell 0
  have z0 : w0.cell? ⟨w.heap.size + 1, 0, none⟩ = some (.int .i64 14) := bC.cell 0
  refine (implNumRange_v 14 w0 (by rfl) (by rfl) (by rfl)).mono ?_
  rintro e wn ⟨rfl, hwn⟩
  subst hwn
  go_wp2_with fail
  refine (implNumRange_v 14 w0 (by rfl) (by rfl) (by rfl)).mono ?_
  rintro e wn ⟨rfl, hwn⟩
  subst hwn
  have a3 : w0.cell? ⟨w.heap.size, 3, none⟩ = some (.slice kidsA kidsN kidsC) := bA.cell 3
  have z3 : w0.cell? ⟨w.heap.size + 1, 3, none⟩ = some (.slice ZkidsA ZkidsN ZkidsC) := bC.cell 3
  obtain ⟨g, off, rfl, hg_kids, hcell_kids⟩ := hat_kids (by omega)
  obtain ⟨x, hx_x, hmem_x⟩ := at_lt HN_kids.out hpos
  obtain ⟨x_kind, x_name, x_labels, x_kids⟩ := x
  obtain ⟨x_labelsV, x_kidsV, c_x_kind, c_x_name, c_x_labels, c_x_kids, R_x_labels, R_x_kids⟩ := tyAt (k := 0) (a0 := off) (a1 := off + 1) (a2 := off + 2) (a3 := off + 3) (hB0.mono (Nat.le_refl _)) hg_kids hB hcell_kids hx_x ⟨rfl, rfl, rfl, rfl⟩
  replace R_x_labels := Lib.hid R_x_labels
  replace R_x_kids := Lib.hid R_x_kids
  have HX_x := Lib.hid hx_x
  have HM_x := Lib.hid hmem_x
  clear hx_x hmem_x
  obtain ⟨g2, off2, rfl, hg_Zkids, hcell_Zkids⟩ := hat_Zkids (by omega)
  obtain ⟨y, hx_y, hmem_y⟩ := at_lt HN_Zkids.out hposz
  obtain ⟨y_kind, y_name, y_labels, y_kids⟩ := y
  obtain ⟨y_labelsV, y_kidsV, c_y_kind, c_y_name, c_y_labels, c_y_kids, R_y_labels, R_y_kids⟩ := tyAt (k := 0) (a0 := off2) (a1 := off2 + 1) (a2 := off2 + 2) (a3 := off2 + 3) (hB0.mono (Nat.le_refl _)) hg_Zkids hB hcell_Zkids hx_y ⟨rfl, rfl, rfl, rfl⟩
  replace R_y_labels := Lib.hid R_y_labels
  replace R_y_kids := Lib.hid R_y_kids
  have HX_y := Lib.hid hx_y
  have HM_y := Lib.hid hmem_y
  clear hx_y hmem_y
  have y_p1 : (9223372036854775807 < at_.size + (⟨#[46, 111, 107]⟩ : ByteArray).size) = False := eq_false (by have z_ : (⟨#[46, 111, 107]⟩ : ByteArray).size = 3 := rfl; omega)
  have x_p1 : (9223372036854775807 < at_.size + 3) = False := eq_false (by omega)
  obtain ⟨p1, e_p1⟩ : ∃ p, at_ ++ (⟨#[46, 111, 107]⟩ : ByteArray) = p := ⟨_, rfl⟩
  have l_p1 : p1.size ≤ at_.size + 3 := by rw [← e_p1, ByteArray.size_append]; have z_ : (⟨#[46, 111, 107]⟩ : ByteArray).size = 3 := rfl; omega
  have y_p2 : (9223372036854775807 < at_.size + (⟨#[46, 101, 114, 114]⟩ : ByteArray).size) = False := eq_false (by have z_ : (⟨#[46, 101, 114, 114]⟩ : ByteArray).size = 4 := rfl; omega)
  have x_p2 : (9223372036854775807 < at_.size + 4) = False := eq_false (by omega)
  obtain ⟨p2, e_p2⟩ : ∃ p, at_ ++ (⟨#[46, 101, 114, 114]⟩ : ByteArray) = p := ⟨_, rfl⟩
  have l_p2 : p2.size ≤ at_.size + 4 := by rw [← e_p2, ByteArray.size_append]; have z_ : (⟨#[46, 101, 114, 114]⟩ : ByteArray).size = 4 := rfl; omega
  obtain ⟨R2, hR2⟩ : ∃ r, rec ⟨x_kind, x_name, x_labels, x_kids⟩ ⟨y_kind, y_name, y_labels, y_kids⟩ p1 = r := ⟨_, rfl⟩
  have HC := fun (V : World) (hV : Keep (w.heap.size + 1 + 1) (w.heap.size + 1 + 1 + 1) w0 V) => HREC.out ⟨x_kind, x_name, x_labels, x_kids⟩ ⟨y_kind, y_name, y_labels, y_kids⟩ p1 B [.int .i64 x_kind, .string x_name, x_labelsV, x_kidsV] [.int .i64 y_kind, .string y_name, y_labelsV, y_kidsV] V (Nat.le_trans (Nat.le_trans hB hB0.size) hV.size) (hT.below (hB0.trans (kb hV (by omega)))) (HOKx.out _ HM_x.out) (HOKy.out _ HM_y.out) (by omega) ((Ty.close_ R_x_labels.out R_x_kids.out).below (kb hV (by omega))) ((Ty.close_ R_y_labels.out R_y_kids.out).below (kb hV (by omega)))
  unfold WQ at HC
  rw [hR2] at HC
  obtain ⟨RK, RS, RN, HRK, HRS, HRN⟩ := why3 R2
  rw [HRK.out, HRS.out, HRN.out] at HC
  replace HC := Lib.hid HC
  have HR2 := Lib.hid hR2
  clear hR2
  have HK1 : Hid (kid0 rec p1 kids Zkids 0 = R2) := by show _ = _; rw [kid0_at HX_x.out HX_y.out, ← HR2.out]
  have HS : Hid (∀ V, Keep (w.heap.size + 1 + 1) (w.heap.size + 1 + 1 + 1) w0 V → V.cell? ⟨w.heap.size, 3, none⟩ = some (.slice (some ⟨g, off, none⟩) kidsN kidsC) ∧ V.cell? ⟨w.heap.size + 1, 3, none⟩ = some (.slice (some ⟨g2, off2, none⟩) ZkidsN ZkidsC) ∧ V.cell? ⟨g, off, none⟩ = some (.int .i64 x_kind) ∧ V.cell? ⟨g, off + 1, none⟩ = some (.string x_name) ∧ V.cell? ⟨g, off + 2, none⟩ = some (x_labelsV) ∧ V.cell? ⟨g, off + 3, none⟩ = some (x_kidsV) ∧ V.cell? ⟨g2, off2, none⟩ = some (.int .i64 y_kind) ∧ V.cell? ⟨g2, off2 + 1, none⟩ = some (.string y_name) ∧ V.cell? ⟨g2, off2 + 2, none⟩ = some (y_labelsV) ∧ V.cell? ⟨g2, off2 + 3, none⟩ = some (y_kidsV)) := Lib.hid fun V hV => ⟨(hV.cell (p := ⟨w.heap.size, 3, none⟩) (by simp only; omega) (by simp only; omega)).trans a3, (hV.cell (p := ⟨w.heap.size + 1, 3, none⟩) (by simp only; omega) (by simp only; omega)).trans z3, (hV.cell (p := ⟨g, off, none⟩) (by simp only; omega) (by simp only; omega)).trans c_x_kind, (hV.cell (p := ⟨g, off + 1, none⟩) (by simp only; omega) (by simp only; omega)).trans c_x_name, (hV.cell (p := ⟨g, off + 2, none⟩) (by simp only; omega) (by simp only; omega)).trans c_x_labels, (hV.cell (p := ⟨g, off + 3, none⟩) (by simp only; omega) (by simp only; omega)).trans c_x_kids, (hV.cell (p := ⟨g2, off2, none⟩) (by simp only; omega) (by simp only; omega)).trans c_y_kind, (hV.cell (p := ⟨g2, off2 + 1, none⟩) (by simp only; omega) (by simp only; omega)).trans c_y_name, (hV.cell (p := ⟨g2, off2 + 2, none⟩) (by simp only; omega) (by simp only; omega)).trans c_y_labels, (hV.cell (p := ⟨g2, off2 + 3, none⟩) (by simp only; omega) (by simp only; omega)).trans c_y_kids⟩
  go_wp2_with fail
  go_region_held3 (fun w' => w'.cell? ⟨w.heap.size, 3, none⟩ = some (.slice (some ⟨g, off, none⟩) kidsN kidsC) ∧ w'.cell? ⟨w.heap.size + 1, 3, none⟩ = some (.slice (some ⟨g2, off2, none⟩) ZkidsN ZkidsC) ∧ w'.cell? ⟨g, off, none⟩ = some (.int .i64 x_kind) ∧ w'.cell? ⟨g, off + 1, none⟩ = some (.string x_name) ∧ w'.cell? ⟨g, off + 2, none⟩ = some (x_labelsV) ∧ w'.cell? ⟨g, off + 3, none⟩ = some (x_kidsV) ∧ w'.cell? ⟨g2, off2, none⟩ = some (.int .i64 y_kind) ∧ w'.cell? ⟨g2, off2 + 1, none⟩ = some (.string y_name) ∧ w'.cell? ⟨g2, off2 + 2, none⟩ = some (y_labelsV) ∧ w'.cell? ⟨g2, off2 + 3, none⟩ = some (y_kidsV))
    (first | exact HS.out _ (by repeat (first | exact hq1 | exact hq2 | exact Keep.refl _ _ _ | refine Keep.drew ?_ | refine Keep.alloc ?_ _ | refine Keep.setAt ?_ _ _ | refine Keep.newAt ?_ (Nat.le_refl _) _ _ | refine Keep.newAt ?_ hbWd.size _ _ | refine Keep.newAt ?_ hbW.size _ _)))
    (first | (go_at_call 86; refine (HC.out _ (by repeat (first | exact hq1 | exact hq2 | exact Keep.refl _ _ _ | refine Keep.drew ?_ | refine Keep.alloc ?_ _ | refine Keep.setAt ?_ _ _ | refine Keep.newAt ?_ (Nat.le_refl _) _ _ | refine Keep.newAt ?_ hbWd.size _ _ | refine Keep.newAt ?_ hbW.size _ _))).mono ?_; rintro e wq ⟨rfl, hbq⟩; have hbW : Below w0.heap.size w0 wq := (by first | exact (Below.refl _ _).drew.trans hbq | exact ((Below.refl _ _).drew.alloc (Nat.le_refl _) _).trans (hbq.mono (by simp))); have hq2 : Keep (w.heap.size + 1 + 1) (w.heap.size + 1 + 1 + 1) w0 wq := Keep.of_below hbW; (first | (have bP : Blk wq w0.heap.size 34 #[.int .i64 0, .string { data := #[] }] := (Blk.new w0.drew _ _).step hbq; have p0 : wq.cell? ⟨w0.heap.size, 0, none⟩ = some (.int .i64 0) := bP.cell 0; have p1 : wq.cell? ⟨w0.heap.size, 1, none⟩ = some (.string { data := #[] }) := bP.cell 1; have g0 : wq.frozen? ⟨w0.heap.size, 0, none⟩ = false := bP.frozen 0; have g1 : wq.frozen? ⟨w0.heap.size, 1, none⟩ = false := bP.frozen 1) | skip)))
  all_goals
    first
      | (obtain ⟨w6, hw6⟩ : ∃ V, V = wq.alloc (.cells #[.int .i64 RK, .string RS] 34) := ⟨_, rfl⟩; rw [← hw6]; have bX : Blk w6 wq.heap.size 34 #[.int .i64 RK, .string RS] := (by rw [hw6]; exact Blk.new wq _ _); have hb6 : Below w0.heap.size w0 w6 := (by rw [hw6]; exact hbW.alloc hbW.size _); obtain ⟨rx, hrx⟩ : ∃ r, r = wq.heap.size := ⟨_, rfl⟩; have hle6 : w0.heap.size ≤ rx := (by rw [hrx]; exact hbW.size); rw [← hrx] at bX ⊢; clear hw6 hrx)
      | (obtain ⟨w6, hw6⟩ : ∃ V, V = (wq.setCell ⟨w0.heap.size, 0, none⟩ (.int .i64 RK)).setCell ⟨w0.heap.size, 1, none⟩ (.string RS) := ⟨_, rfl⟩; rw [← hw6]; have bX : Blk w6 (w0.heap.size) 34 #[.int .i64 RK, .string RS] := (by rw [hw6]; have := (bP.set_ 0 (.int .i64 RK)).set_ 1 (.string RS); simpa using this); have hb6 : Below w0.heap.size w0 w6 := (by rw [hw6]; exact (hbW.setCell (p := ⟨w0.heap.size, 0, none⟩) (by first | exact Nat.le_refl _ | exact hbWd.size | exact hbW.size) _).setCell (p := ⟨w0.heap.size, 1, none⟩) (by first | exact Nat.le_refl _ | exact hbWd.size | exact hbW.size) _); obtain ⟨rx, hrx⟩ : ∃ r, r = w0.heap.size := ⟨_, rfl⟩; have hle6 : w0.heap.size ≤ rx := (by rw [hrx]; first | exact Nat.le_refl _ | exact hbW.size | exact hbWd.size); rw [← hrx] at bX ⊢; clear hw6 hrx)
    have hB6 := hB0.trans (hb6.mono (by omega))
    have bR6 := bR.step hb6
    have hs6 := hb6.size
    cases RN
    case true =>
      have HF : Hid (R = some (RK, RS)) := by show _ = _; rw [HR.out, whyK_14, e_p1, HK1.out, why_some HRN.out, HRK.out, HRS.out]
      obtain ⟨q0, q1⟩ := rq bX
      obtain ⟨r0, r1, f0, f1⟩ := zr bR6
      go_wp2_with fail
      obtain ⟨n0, n1, nB⟩ := ret3 bR6 hB6 (by omega) (RK) (RS)
      exact bodyPost_ret (v := .tuple #[.agg #[.int .i64 RK, .string RS], .bool true]) (by simp [results, Tryz.results86, go_sem, n0, n1]) rfl ⟨ret_why (by rw [HF.out]; rfl) (by rw [HF.out]; rfl) (by rw [HF.out]; rfl), nB⟩
    case false =>
      have HF1 : Hid (R = kid0 rec p2 kids Zkids 1) := by show _ = _; rw [HR.out, whyK_14, e_p1, HK1.out, why_none HRN.out, e_p2]
      clear a3 z3 HS HC HRK HRS HRN HR2
      have bA6 := bA.step hb6
      have bC6 := bC.step hb6
      have a3 : w6.cell? ⟨w.heap.size, 3, none⟩ = some (.slice (some ⟨g, off, none⟩) kidsN kidsC) := bA6.cell 3
      have z3 : w6.cell? ⟨w.heap.size + 1, 3, none⟩ = some (.slice (some ⟨g2, off2, none⟩) ZkidsN ZkidsC) := bC6.cell 3
      clear bA bC
      have HOKx1 := HOKx
      have HOKy1 := HOKy
      obtain ⟨x1, hx_x1, hmem_x1⟩ := at_lt HN_kids.out hpos1
      obtain ⟨x1_kind, x1_name, x1_labels, x1_kids⟩ := x1
      obtain ⟨x1_labelsV, x1_kidsV, c_x1_kind, c_x1_name, c_x1_labels, c_x1_kids, R_x1_labels, R_x1_kids⟩ := tyAt (k := 1) (a0 := off + 4) (a1 := off + 5) (a2 := off + 6) (a3 := off + 7) (hB6.mono (Nat.le_refl _)) hg_kids hB hcell_kids hx_x1 ⟨rfl, rfl, rfl, rfl⟩
      replace R_x1_labels := Lib.hid R_x1_labels
      replace R_x1_kids := Lib.hid R_x1_kids
      have HX_x1 := Lib.hid hx_x1
      have HM_x1 := Lib.hid hmem_x1
      clear hx_x1 hmem_x1
      obtain ⟨y1, hx_y1, hmem_y1⟩ := at_lt HN_Zkids.out hposz1
      obtain ⟨y1_kind, y1_name, y1_labels, y1_kids⟩ := y1
      obtain ⟨y1_labelsV, y1_kidsV, c_y1_kind, c_y1_name, c_y1_labels, c_y1_kids, R_y1_labels, R_y1_kids⟩ := tyAt (k := 1) (a0 := off2 + 4) (a1 := off2 + 5) (a2 := off2 + 6) (a3 := off2 + 7) (hB6.mono (Nat.le_refl _)) hg_Zkids hB hcell_Zkids hx_y1 ⟨rfl, rfl, rfl, rfl⟩
      replace R_y1_labels := Lib.hid R_y1_labels
      replace R_y1_kids := Lib.hid R_y1_kids
      have HX_y1 := Lib.hid hx_y1
      have HM_y1 := Lib.hid hmem_y1
      clear hx_y1 hmem_y1
      obtain ⟨R2, hR2⟩ : ∃ r, rec ⟨x1_kind, x1_name, x1_labels, x1_kids⟩ ⟨y1_kind, y1_name, y1_labels, y1_kids⟩ p2 = r := ⟨_, rfl⟩
      have HC := fun (V : World) (hV : Keep (w.heap.size + 1 + 1) (w.heap.size + 1 + 1 + 1) w6 V) => HREC.out ⟨x1_kind, x1_name, x1_labels, x1_kids⟩ ⟨y1_kind, y1_name, y1_labels, y1_kids⟩ p2 B [.int .i64 x1_kind, .string x1_name, x1_labelsV, x1_kidsV] [.int .i64 y1_kind, .string y1_name, y1_labelsV, y1_kidsV] V (Nat.le_trans (Nat.le_trans hB hB6.size) hV.size) (hT.below (hB6.trans (kb hV (by omega)))) (HOKx1.out _ HM_x1.out) (HOKy1.out _ HM_y1.out) (by omega) ((Ty.close_ R_x1_labels.out R_x1_kids.out).below (kb hV (by omega))) ((Ty.close_ R_y1_labels.out R_y1_kids.out).below (kb hV (by omega)))
      unfold WQ at HC
      rw [hR2] at HC
      obtain ⟨RK, RS, RN, HRK, HRS, HRN⟩ := why3 R2
      rw [HRK.out, HRS.out, HRN.out] at HC
      replace HC := Lib.hid HC
      have HR2 := Lib.hid hR2
      clear hR2
      have HF : Hid (R = R2) := by show _ = _; rw [HF1.out, kid0_at HX_x1.out HX_y1.out, ← HR2.out]
      have HS : Hid (∀ V, Keep (w.heap.size + 1 + 1) (w.heap.size + 1 + 1 + 1) w6 V → V.cell? ⟨w.heap.size, 3, none⟩ = some (.slice (some ⟨g, off, none⟩) kidsN kidsC) ∧ V.cell? ⟨w.heap.size + 1, 3, none⟩ = some (.slice (some ⟨g2, off2, none⟩) ZkidsN ZkidsC) ∧ V.cell? ⟨g, off + 4, none⟩ = some (.int .i64 x1_kind) ∧ V.cell? ⟨g, off + 5, none⟩ = some (.string x1_name) ∧ V.cell? ⟨g, off + 6, none⟩ = some (x1_labelsV) ∧ V.cell? ⟨g, off + 7, none⟩ = some (x1_kidsV) ∧ V.cell? ⟨g2, off2 + 4, none⟩ = some (.int .i64 y1_kind) ∧ V.cell? ⟨g2, off2 + 5, none⟩ = some (.string y1_name) ∧ V.cell? ⟨g2, off2 + 6, none⟩ = some (y1_labelsV) ∧ V.cell? ⟨g2, off2 + 7, none⟩ = some (y1_kidsV)) := Lib.hid fun V hV => ⟨(hV.cell (p := ⟨w.heap.size, 3, none⟩) (by simp only; omega) (by simp only; omega)).trans a3, (hV.cell (p := ⟨w.heap.size + 1, 3, none⟩) (by simp only; omega) (by simp only; omega)).trans z3, (hV.cell (p := ⟨g, off + 4, none⟩) (by simp only; omega) (by simp only; omega)).trans c_x1_kind, (hV.cell (p := ⟨g, off + 5, none⟩) (by simp only; omega) (by simp only; omega)).trans c_x1_name, (hV.cell (p := ⟨g, off + 6, none⟩) (by simp only; omega) (by simp only; omega)).trans c_x1_labels, (hV.cell (p := ⟨g, off + 7, none⟩) (by simp only; omega) (by simp only; omega)).trans c_x1_kids, (hV.cell (p := ⟨g2, off2 + 4, none⟩) (by simp only; omega) (by simp only; omega)).trans c_y1_kind, (hV.cell (p := ⟨g2, off2 + 5, none⟩) (by simp only; omega) (by simp only; omega)).trans c_y1_name, (hV.cell (p := ⟨g2, off2 + 6, none⟩) (by simp only; omega) (by simp only; omega)).trans c_y1_labels, (hV.cell (p := ⟨g2, off2 + 7, none⟩) (by simp only; omega) (by simp only; omega)).trans c_y1_kids⟩
      clear bA6 bC6
      go_wp2_with fail
      go_region_held3 (fun w' => w'.cell? ⟨w.heap.size, 3, none⟩ = some (.slice (some ⟨g, off, none⟩) kidsN kidsC) ∧ w'.cell? ⟨w.heap.size + 1, 3, none⟩ = some (.slice (some ⟨g2, off2, none⟩) ZkidsN ZkidsC) ∧ w'.cell? ⟨g, off + 4, none⟩ = some (.int .i64 x1_kind) ∧ w'.cell? ⟨g, off + 5, none⟩ = some (.string x1_name) ∧ w'.cell? ⟨g, off + 6, none⟩ = some (x1_labelsV) ∧ w'.cell? ⟨g, off + 7, none⟩ = some (x1_kidsV) ∧ w'.cell? ⟨g2, off2 + 4, none⟩ = some (.int .i64 y1_kind) ∧ w'.cell? ⟨g2, off2 + 5, none⟩ = some (.string y1_name) ∧ w'.cell? ⟨g2, off2 + 6, none⟩ = some (y1_labelsV) ∧ w'.cell? ⟨g2, off2 + 7, none⟩ = some (y1_kidsV))
        (first | exact HS.out _ (by repeat (first | exact hq1 | exact hq2 | exact Keep.refl _ _ _ | refine Keep.drew ?_ | refine Keep.alloc ?_ _ | refine Keep.setAt ?_ _ _ | refine Keep.newAt ?_ (Nat.le_refl _) _ _ | refine Keep.newAt ?_ hbWd.size _ _ | refine Keep.newAt ?_ hbW.size _ _)))
        (first | (go_at_call 86; refine (HC.out _ (by repeat (first | exact hq1 | exact hq2 | exact Keep.refl _ _ _ | refine Keep.drew ?_ | refine Keep.alloc ?_ _ | refine Keep.setAt ?_ _ _ | refine Keep.newAt ?_ (Nat.le_refl _) _ _ | refine Keep.newAt ?_ hbWd.size _ _ | refine Keep.newAt ?_ hbW.size _ _))).mono ?_; rintro e wq ⟨rfl, hbq⟩; have hbW := (Below.refl w6.heap.size w6).drew.trans hbq; have hq1 : Keep (w.heap.size + 1 + 1) (w.heap.size + 1 + 1 + 1) w6 wq := Keep.of_below hbW; have bRq := bR6.step hbW; have r0 : wq.cell? ⟨w.heap.size + 1 + 1, 0, none⟩ = some (.int .i64 0) := bRq.cell 0; have r1 : wq.cell? ⟨w.heap.size + 1 + 1, 1, none⟩ = some (.string { data := #[] }) := bRq.cell 1; have f0 := bRq.frozen 0; have f1 := bRq.frozen 1))
      all_goals
        have hBq := hB6.trans (hbW.mono (by omega))
        have hsq := hbW.size
        try go_wp2_with fail
        obtain ⟨n0, n1, nB⟩ := ret3 bRq hBq (by omega) (RK) (RS)
        exact bodyPost_ret (v := .tuple #[.agg #[.int .i64 RK, .string RS], .bool RN]) (by simp [results, Tryz.results86, go_sem, n0, n1]) rfl ⟨ret_why (by rw [HF.out, HRK.out]) (by rw [HF.out, HRS.out]) (by rw [HF.out, HRN.out]), nB⟩
set_option maxHeartbeats 12800000 in
theorem implWhy_15 {rec : Ty → Ty → ByteArray → Why} {n M : Nat} (hM : M ≤ 1000000) (hrec : WhyC 86 rec n M) {name Zname at_ : ByteArray} {labels Zlabels : List ByteArray} {kids Zkids : List Ty} (hat : at_.size + 32 ≤ M) {B : Nat} {cs ds : List Value} {w : World} (hB : B ≤ w.heap.size) (hT : TabP w) (hx : OkT (n + 1) ⟨15, name, labels, kids⟩) (hy : OkT (n + 1) ⟨15, Zname, Zlabels, Zkids⟩) (h : RepC w B (Ty.pd ⟨15, name, labels, kids⟩) cs) (k : RepC w B (Ty.pd ⟨15, Zname, Zlabels, Zkids⟩) ds) :
    Calls Tryz.prog 86 #[.agg cs.toArray, .agg ds.toArray, .string at_] w fun e w' => WQ (whyK rec 15 name labels kids Zname Zlabels Zkids at_) w e w' := by
  have HHX := Lib.hid hx
  have HHY := Lib.hid hy
  obtain ⟨labelsV, kidsV, rfl, r_labels, r_kids⟩ := Ty.open_ h
  obtain ⟨labelsA, labelsN, labelsC, rfl⟩ := r_labels.form
  have R_labels := Lib.hid r_labels
  clear r_labels
  obtain ⟨kidsA, kidsN, kidsC, rfl⟩ := r_kids.form
  have R_kids := Lib.hid r_kids
  clear r_kids
  obtain ⟨ZlabelsV, ZkidsV, rfl, r_Zlabels, r_Zkids⟩ := Ty.open_ k
  obtain ⟨ZlabelsA, ZlabelsN, ZlabelsC, rfl⟩ := r_Zlabels.form
  have R_Zlabels := Lib.hid r_Zlabels
  clear r_Zlabels
  obtain ⟨ZkidsA, ZkidsN, ZkidsC, rfl⟩ := r_Zkids.form
  have R_Zkids := Lib.hid r_Zkids
  clear r_Zkids
  clear h k
  have HOKx := Lib.hid (okT_kids hx)
  have HOKy := Lib.hid (okT_kids hy)
  have SX := Lib.hid (shF hx.2)
  have SY := Lib.hid (shF hy.2)
  clear hx hy
  have HREC := Lib.hid hrec
  clear hrec
  obtain ⟨R, hR⟩ : ∃ R : Why, R = whyK rec 15 name labels kids Zname Zlabels Zkids at_ := ⟨_, rfl⟩
  rw [← hR]
  have HR := Lib.hid hR
  clear hR
  obtain ⟨w0, hw0, bA, bC, bR, hB0, hs0⟩ := box3 w 60 #[.int .i64 15, .string name, .slice labelsA labelsN labelsC, .slice kidsA kidsN kidsC] #[.int .i64 15, .string Zname, .slice ZlabelsA ZlabelsN ZlabelsC, .slice ZkidsA ZkidsN ZkidsC]
  have HW0 := Lib.hid hw0
  clear hw0
  go_enter Tryz.func86, Tryz.ntmps86
  go_wp2_with fail
  rw [← HW0.out]
  clear HW0
  have a0 : w0.cell? ⟨w.heap.size, 0, none⟩ = some (.int .i64 15) := bA.cell 0
  have z0 : w0.cell? ⟨w.heap.size + 1, 0, none⟩ = some (.int .i64 15) := bC.cell 0
  refine (implNumRange_v 15 w0 (by rfl) (by rfl) (by rfl)).mono ?_
  rintro e wn ⟨rfl, hwn⟩
  subst hwn
  go_wp2_with fail
  refine (implNumRange_v 15 w0 (by rfl) (by rfl) (by rfl)).mono ?_
  rintro e wn ⟨rfl, hwn⟩
  subst hwn
  have a1 : w0.cell? ⟨w.heap.size, 1, none⟩ = some (.string name) := bA.cell 1
  have a2 : w0.cell? ⟨w.heap.size, 2, none⟩ = some (.slice labelsA labelsN labelsC) := bA.cell 2
  have a3 : w0.cell? ⟨w.heap.size, 3, none⟩ = some (.slice kidsA kidsN kidsC) := bA.cell 3
  have z1 : w0.cell? ⟨w.heap.size + 1, 1, none⟩ = some (.string Zname) := bC.cell 1
  have z2 : w0.cell? ⟨w.heap.size + 1, 2, none⟩ = some (.slice ZlabelsA ZlabelsN ZlabelsC) := bC.cell 2
  have z3 : w0.cell? ⟨w.heap.size + 1, 3, none⟩ = some (.slice ZkidsA ZkidsN ZkidsC) := bC.cell 3
  have HCW := implTuple_any hM HREC.out (at_ := at_) hat (B := B) (cs := [.int .i64 15, .string name, .slice labelsA labelsN labelsC, .slice kidsA kidsN kidsC]) (ds := [.int .i64 15, .string Zname, .slice ZlabelsA ZlabelsN ZlabelsC, .slice ZkidsA ZkidsN ZkidsC]) (w := w0) (Nat.le_trans hB hB0.size) (hT.below hB0)  HHX.out HHY.out (Ty.close_ (R_labels.out.below (hB0.mono hB)) (R_kids.out.below (hB0.mono hB))) (Ty.close_ (R_Zlabels.out.below (hB0.mono hB)) (R_Zkids.out.below (hB0.mono hB)))
  obtain ⟨R2, hR2⟩ : ∃ r, tupW rec at_ kids Zkids = r := ⟨_, rfl⟩
  unfold WQ at HCW
  rw [hR2] at HCW
  obtain ⟨RK, RS, RN, HRK, HRS, HRN⟩ := why3 R2
  rw [HRK.out, HRS.out, HRN.out] at HCW
  replace HCW := Lib.hid HCW
  have HF : Hid (R = R2) := by show _ = _; rw [HR.out, ← hR2]; exact whyK_15
  clear hR2
  go_wp2_with fail
  refine HCW.out.mono ?_
  rintro e wq ⟨rfl, hbq⟩
  have hBq := hB0.trans (hbq.mono (by omega))
  have hsq := hbq.size
  have bRq := bR.step hbq
  obtain ⟨r0, r1, f0, f1⟩ := zr bRq
  go_wp2_with fail
  obtain ⟨n0, n1, nB⟩ := ret3 bRq hBq (by omega) (RK) (RS)
  exact bodyPost_ret (v := .tuple #[.agg #[.int .i64 RK, .string RS], .bool RN]) (by simp [results, Tryz.results86, go_sem, n0, n1]) rfl ⟨ret_why (by rw [HF.out, HRK.out]) (by rw [HF.out, HRS.out]) (by rw [HF.out, HRN.out]), nB⟩
set_option maxHeartbeats 12800000 in
theorem implWhy_16 {rec : Ty → Ty → ByteArray → Why} {n M : Nat} (hM : M ≤ 1000000) (hrec : WhyC 86 rec n M) {name Zname at_ : ByteArray} {labels Zlabels : List ByteArray} {kids Zkids : List Ty} (hat : at_.size + 32 ≤ M) {B : Nat} {cs ds : List Value} {w : World} (hB : B ≤ w.heap.size) (hT : TabP w) (hx : OkT (n + 1) ⟨16, name, labels, kids⟩) (hy : OkT (n + 1) ⟨16, Zname, Zlabels, Zkids⟩) (h : RepC w B (Ty.pd ⟨16, name, labels, kids⟩) cs) (k : RepC w B (Ty.pd ⟨16, Zname, Zlabels, Zkids⟩) ds) :
    Calls Tryz.prog 86 #[.agg cs.toArray, .agg ds.toArray, .string at_] w fun e w' => WQ (whyK rec 16 name labels kids Zname Zlabels Zkids at_) w e w' := by
  have HHX := Lib.hid hx
  have HHY := Lib.hid hy
  obtain ⟨labelsV, kidsV, rfl, r_labels, r_kids⟩ := Ty.open_ h
  obtain ⟨labelsA, labelsN, labelsC, rfl⟩ := r_labels.form
  have R_labels := Lib.hid r_labels
  clear r_labels
  obtain ⟨kidsA, kidsN, kidsC, rfl⟩ := r_kids.form
  have R_kids := Lib.hid r_kids
  clear r_kids
  obtain ⟨ZlabelsV, ZkidsV, rfl, r_Zlabels, r_Zkids⟩ := Ty.open_ k
  obtain ⟨ZlabelsA, ZlabelsN, ZlabelsC, rfl⟩ := r_Zlabels.form
  have R_Zlabels := Lib.hid r_Zlabels
  clear r_Zlabels
  obtain ⟨ZkidsA, ZkidsN, ZkidsC, rfl⟩ := r_Zkids.form
  have R_Zkids := Lib.hid r_Zkids
  clear r_Zkids
  clear h k
  have HOKx := Lib.hid (okT_kids hx)
  have HOKy := Lib.hid (okT_kids hy)
  have SX := Lib.hid (shF hx.2)
  have SY := Lib.hid (shF hy.2)
  clear hx hy
  have HREC := Lib.hid hrec
  clear hrec
  obtain ⟨R, hR⟩ : ∃ R : Why, R = whyK rec 16 name labels kids Zname Zlabels Zkids at_ := ⟨_, rfl⟩
  rw [← hR]
  have HR := Lib.hid hR
  clear hR
  obtain ⟨w0, hw0, bA, bC, bR, hB0, hs0⟩ := box3 w 60 #[.int .i64 16, .string name, .slice labelsA labelsN labelsC, .slice kidsA kidsN kidsC] #[.int .i64 16, .string Zname, .slice ZlabelsA ZlabelsN ZlabelsC, .slice ZkidsA ZkidsN ZkidsC]
  have HW0 := Lib.hid hw0
  clear hw0
  go_enter Tryz.func86, Tryz.ntmps86
  go_wp2_with fail
  rw [← HW0.out]
  clear HW0
  have a0 : w0.cell? ⟨w.heap.size, 0, none⟩ = some (.int .i64 16) := bA.cell 0
  have z0 : w0.cell? ⟨w.heap.size + 1, 0, none⟩ = some (.int .i64 16) := bC.cell 0
  refine (implNumRange_v 16 w0 (by rfl) (by rfl) (by rfl)).mono ?_
  rintro e wn ⟨rfl, hwn⟩
  subst hwn
  go_wp2_with fail
  refine (implNumRange_v 16 w0 (by rfl) (by rfl) (by rfl)).mono ?_
  rintro e wn ⟨rfl, hwn⟩
  subst hwn
  have a1 : w0.cell? ⟨w.heap.size, 1, none⟩ = some (.string name) := bA.cell 1
  have a2 : w0.cell? ⟨w.heap.size, 2, none⟩ = some (.slice labelsA labelsN labelsC) := bA.cell 2
  have a3 : w0.cell? ⟨w.heap.size, 3, none⟩ = some (.slice kidsA kidsN kidsC) := bA.cell 3
  have z1 : w0.cell? ⟨w.heap.size + 1, 1, none⟩ = some (.string Zname) := bC.cell 1
  have z2 : w0.cell? ⟨w.heap.size + 1, 2, none⟩ = some (.slice ZlabelsA ZlabelsN ZlabelsC) := bC.cell 2
  have z3 : w0.cell? ⟨w.heap.size + 1, 3, none⟩ = some (.slice ZkidsA ZkidsN ZkidsC) := bC.cell 3
  have HCW := implLabW_any 120 (rec := fun x y => rec y x) hM (whyNot1_C HREC.out) whyNot1_enter (kind := 4) (at_ := at_) hat (B := B) (cs := [.int .i64 16, .string Zname, .slice ZlabelsA ZlabelsN ZlabelsC, .slice ZkidsA ZkidsN ZkidsC]) (ds := [.int .i64 16, .string name, .slice labelsA labelsN labelsC, .slice kidsA kidsN kidsC]) (w := w0) (Nat.le_trans hB hB0.size) (hT.below hB0) (SY.out.labs (by decide)) (.inr ⟨kids_lab (by decide) SY.out.right, kids_lab (by decide) SX.out.right⟩) HHY.out HHX.out (Ty.close_ (R_Zlabels.out.below (hB0.mono hB)) (R_Zkids.out.below (hB0.mono hB))) (Ty.close_ (R_labels.out.below (hB0.mono hB)) (R_kids.out.below (hB0.mono hB)))
  obtain ⟨R2, hR2⟩ : ∃ r, labW (fun x y => rec y x) 4 at_ Zlabels Zkids labels kids = r := ⟨_, rfl⟩
  unfold WQ at HCW
  rw [hR2] at HCW
  obtain ⟨RK, RS, RN, HRK, HRS, HRN⟩ := why3 R2
  rw [HRK.out, HRS.out, HRN.out] at HCW
  replace HCW := Lib.hid HCW
  have HF : Hid (R = R2) := by show _ = _; rw [HR.out, ← hR2]; exact whyK_16
  clear hR2
  go_wp2_with fail
  refine HCW.out.mono ?_
  rintro e wq ⟨rfl, hbq⟩
  have hBq := hB0.trans (hbq.mono (by omega))
  have hsq := hbq.size
  have bRq := bR.step hbq
  obtain ⟨r0, r1, f0, f1⟩ := zr bRq
  go_wp2_with fail
  obtain ⟨n0, n1, nB⟩ := ret3 bRq hBq (by omega) (RK) (RS)
  exact bodyPost_ret (v := .tuple #[.agg #[.int .i64 RK, .string RS], .bool RN]) (by simp [results, Tryz.results86, go_sem, n0, n1]) rfl ⟨ret_why (by rw [HF.out, HRK.out]) (by rw [HF.out, HRS.out]) (by rw [HF.out, HRN.out]), nB⟩
set_option maxHeartbeats 12800000 in
theorem implWhy_17 {rec : Ty → Ty → ByteArray → Why} {n M : Nat} (hM : M ≤ 1000000) (hrec : WhyC 86 rec n M) {name Zname at_ : ByteArray} {labels Zlabels : List ByteArray} {kids Zkids : List Ty} (hat : at_.size + 32 ≤ M) {B : Nat} {cs ds : List Value} {w : World} (hB : B ≤ w.heap.size) (hT : TabP w) (hx : OkT (n + 1) ⟨17, name, labels, kids⟩) (hy : OkT (n + 1) ⟨17, Zname, Zlabels, Zkids⟩) (h : RepC w B (Ty.pd ⟨17, name, labels, kids⟩) cs) (k : RepC w B (Ty.pd ⟨17, Zname, Zlabels, Zkids⟩) ds) :
    Calls Tryz.prog 86 #[.agg cs.toArray, .agg ds.toArray, .string at_] w fun e w' => WQ (whyK rec 17 name labels kids Zname Zlabels Zkids at_) w e w' := by
  have HHX := Lib.hid hx
  have HHY := Lib.hid hy
  obtain ⟨labelsV, kidsV, rfl, r_labels, r_kids⟩ := Ty.open_ h
  obtain ⟨labelsA, labelsN, labelsC, rfl⟩ := r_labels.form
  have R_labels := Lib.hid r_labels
  clear r_labels
  obtain ⟨kidsA, kidsN, kidsC, rfl⟩ := r_kids.form
  have R_kids := Lib.hid r_kids
  clear r_kids
  obtain ⟨ZlabelsV, ZkidsV, rfl, r_Zlabels, r_Zkids⟩ := Ty.open_ k
  obtain ⟨ZlabelsA, ZlabelsN, ZlabelsC, rfl⟩ := r_Zlabels.form
  have R_Zlabels := Lib.hid r_Zlabels
  clear r_Zlabels
  obtain ⟨ZkidsA, ZkidsN, ZkidsC, rfl⟩ := r_Zkids.form
  have R_Zkids := Lib.hid r_Zkids
  clear r_Zkids
  clear h k
  have HOKx := Lib.hid (okT_kids hx)
  have HOKy := Lib.hid (okT_kids hy)
  have SX := Lib.hid (shF hx.2)
  have SY := Lib.hid (shF hy.2)
  clear hx hy
  have HREC := Lib.hid hrec
  clear hrec
  obtain ⟨R, hR⟩ : ∃ R : Why, R = whyK rec 17 name labels kids Zname Zlabels Zkids at_ := ⟨_, rfl⟩
  rw [← hR]
  have HR := Lib.hid hR
  clear hR
  obtain ⟨w0, hw0, bA, bC, bR, hB0, hs0⟩ := box3 w 60 #[.int .i64 17, .string name, .slice labelsA labelsN labelsC, .slice kidsA kidsN kidsC] #[.int .i64 17, .string Zname, .slice ZlabelsA ZlabelsN ZlabelsC, .slice ZkidsA ZkidsN ZkidsC]
  have HW0 := Lib.hid hw0
  clear hw0
  go_enter Tryz.func86, Tryz.ntmps86
  go_wp2_with fail
  rw [← HW0.out]
  clear HW0
  have a0 : w0.cell? ⟨w.heap.size, 0, none⟩ = some (.int .i64 17) := bA.cell 0
  have z0 : w0.cell? ⟨w.heap.size + 1, 0, none⟩ = some (.int .i64 17) := bC.cell 0
  refine (implNumRange_v 17 w0 (by rfl) (by rfl) (by rfl)).mono ?_
  rintro e wn ⟨rfl, hwn⟩
  subst hwn
  go_wp2_with fail
  refine (implNumRange_v 17 w0 (by rfl) (by rfl) (by rfl)).mono ?_
  rintro e wn ⟨rfl, hwn⟩
  subst hwn
  have a1 : w0.cell? ⟨w.heap.size, 1, none⟩ = some (.string name) := bA.cell 1
  have a2 : w0.cell? ⟨w.heap.size, 2, none⟩ = some (.slice labelsA labelsN labelsC) := bA.cell 2
  have a3 : w0.cell? ⟨w.heap.size, 3, none⟩ = some (.slice kidsA kidsN kidsC) := bA.cell 3
  have z1 : w0.cell? ⟨w.heap.size + 1, 1, none⟩ = some (.string Zname) := bC.cell 1
  have z2 : w0.cell? ⟨w.heap.size + 1, 2, none⟩ = some (.slice ZlabelsA ZlabelsN ZlabelsC) := bC.cell 2
  have z3 : w0.cell? ⟨w.heap.size + 1, 3, none⟩ = some (.slice ZkidsA ZkidsN ZkidsC) := bC.cell 3
  have HCW := implLabW_any 86 (rec := rec) hM HREC.out whyNot_enter (kind := 5) (at_ := at_) hat (B := B) (cs := [.int .i64 17, .string name, .slice labelsA labelsN labelsC, .slice kidsA kidsN kidsC]) (ds := [.int .i64 17, .string Zname, .slice ZlabelsA ZlabelsN ZlabelsC, .slice ZkidsA ZkidsN ZkidsC]) (w := w0) (Nat.le_trans hB hB0.size) (hT.below hB0) (SX.out.labs (by decide)) (.inr ⟨kids_lab (by decide) SX.out.right, kids_lab (by decide) SY.out.right⟩) HHX.out HHY.out (Ty.close_ (R_labels.out.below (hB0.mono hB)) (R_kids.out.below (hB0.mono hB))) (Ty.close_ (R_Zlabels.out.below (hB0.mono hB)) (R_Zkids.out.below (hB0.mono hB)))
  obtain ⟨R2, hR2⟩ : ∃ r, labW rec 5 at_ labels kids Zlabels Zkids = r := ⟨_, rfl⟩
  unfold WQ at HCW
  rw [hR2] at HCW
  obtain ⟨RK, RS, RN, HRK, HRS, HRN⟩ := why3 R2
  rw [HRK.out, HRS.out, HRN.out] at HCW
  replace HCW := Lib.hid HCW
  have HF : Hid (R = R2) := by show _ = _; rw [HR.out, ← hR2]; exact whyK_lab (by decide)
  clear hR2
  go_wp2_with fail
  refine HCW.out.mono ?_
  rintro e wq ⟨rfl, hbq⟩
  have hBq := hB0.trans (hbq.mono (by omega))
  have hsq := hbq.size
  have bRq := bR.step hbq
  obtain ⟨r0, r1, f0, f1⟩ := zr bRq
  go_wp2_with fail
  obtain ⟨n0, n1, nB⟩ := ret3 bRq hBq (by omega) (RK) (RS)
  exact bodyPost_ret (v := .tuple #[.agg #[.int .i64 RK, .string RS], .bool RN]) (by simp [results, Tryz.results86, go_sem, n0, n1]) rfl ⟨ret_why (by rw [HF.out, HRK.out]) (by rw [HF.out, HRS.out]) (by rw [HF.out, HRN.out]), nB⟩
set_option maxHeartbeats 12800000 in
theorem implWhy_18 {rec : Ty → Ty → ByteArray → Why} {n M : Nat} (hM : M ≤ 1000000) (hrec : WhyC 86 rec n M) {kind : Int} (hk : kind = 18 ∨ kind = 19) {name Zname at_ : ByteArray} {labels Zlabels : List ByteArray} {kids Zkids : List Ty} (hat : at_.size + 32 ≤ M) {B : Nat} {cs ds : List Value} {w : World} (hB : B ≤ w.heap.size) (hT : TabP w) (hx : OkT (n + 1) ⟨kind, name, labels, kids⟩) (hy : OkT (n + 1) ⟨kind, Zname, Zlabels, Zkids⟩) (h : RepC w B (Ty.pd ⟨kind, name, labels, kids⟩) cs) (k : RepC w B (Ty.pd ⟨kind, Zname, Zlabels, Zkids⟩) ds) :
    Calls Tryz.prog 86 #[.agg cs.toArray, .agg ds.toArray, .string at_] w fun e w' => WQ (whyK rec kind name labels kids Zname Zlabels Zkids at_) w e w' := by
  have HHX := Lib.hid hx
  have HHY := Lib.hid hy
  obtain ⟨labelsV, kidsV, rfl, r_labels, r_kids⟩ := Ty.open_ h
  obtain ⟨labelsA, labelsN, labelsC, rfl⟩ := r_labels.form
  have R_labels := Lib.hid r_labels
  clear r_labels
  obtain ⟨kidsA, kidsN, kidsC, rfl⟩ := r_kids.form
  have R_kids := Lib.hid r_kids
  clear r_kids
  obtain ⟨ZlabelsV, ZkidsV, rfl, r_Zlabels, r_Zkids⟩ := Ty.open_ k
  obtain ⟨ZlabelsA, ZlabelsN, ZlabelsC, rfl⟩ := r_Zlabels.form
  have R_Zlabels := Lib.hid r_Zlabels
  clear r_Zlabels
  obtain ⟨ZkidsA, ZkidsN, ZkidsC, rfl⟩ := r_Zkids.form
  have R_Zkids := Lib.hid r_Zkids
  clear r_Zkids
  clear h k
  have HOKx := Lib.hid (okT_kids hx)
  have HOKy := Lib.hid (okT_kids hy)
  have SX := Lib.hid (shF hx.2)
  have SY := Lib.hid (shF hy.2)
  clear hx hy
  have HREC := Lib.hid hrec
  clear hrec
  obtain ⟨R, hR⟩ : ∃ R : Why, R = whyK rec kind name labels kids Zname Zlabels Zkids at_ := ⟨_, rfl⟩
  rw [← hR]
  have HR := Lib.hid hR
  clear hR
  have HK := Lib.hid hk
  have HNU : Hid (isNum kind = false) := by show _ = _; rcases hk with rfl | rfl <;> rfl
  have hkk : (kind != kind) = false := by simp
  have h12 : (kind == 12) = false := by rcases hk with rfl | rfl <;> rfl
  have h13 : (kind == 13) = false := by rcases hk with rfl | rfl <;> rfl
  have h14 : (kind == 14) = false := by rcases hk with rfl | rfl <;> rfl
  have h15 : (kind == 15) = false := by rcases hk with rfl | rfl <;> rfl
  have h16 : (kind == 16) = false := by rcases hk with rfl | rfl <;> rfl
  have h17 : (kind == 17) = false := by rcases hk with rfl | rfl <;> rfl
  have HCS : Hid ((kind == 18) = true ∨ ((kind == 18) = false ∧ (kind == 19) = true)) := by show _ ∨ _; rcases hk with rfl | rfl <;> simp
  clear hk
  obtain ⟨w0, hw0, bA, bC, bR, hB0, hs0⟩ := box3 w 60 #[.int .i64 kind, .string name, .slice labelsA labelsN labelsC, .slice kidsA kidsN kidsC] #[.int .i64 kind, .string Zname, .slice ZlabelsA ZlabelsN ZlabelsC, .slice ZkidsA ZkidsN ZkidsC]
  have HW0 := Lib.hid hw0
  clear hw0
  go_enter Tryz.func86, Tryz.ntmps86
  go_wp2_with fail
  rw [← HW0.out]
  clear HW0
  have a0 : w0.cell? ⟨w.heap.size, 0, none⟩ = some (.int .i64 kind) := bA.cell 0
  have z0 : w0.cell? ⟨w.heap.size + 1, 0, none⟩ = some (.int .i64 kind) := bC.cell 0
  refine (implNumRange_v kind w0 (numLo_no HNU.out) (numHi_no HNU.out) HNU.out).mono ?_
  rintro e wn ⟨rfl, hwn⟩
  subst hwn
  go_wp2_with fail
  refine (implNumRange_v kind w0 (numLo_no HNU.out) (numHi_no HNU.out) HNU.out).mono ?_
  rintro e wn ⟨rfl, hwn⟩
  subst hwn
  have a1 : w0.cell? ⟨w.heap.size, 1, none⟩ = some (.string name) := bA.cell 1
  have a2 : w0.cell? ⟨w.heap.size, 2, none⟩ = some (.slice labelsA labelsN labelsC) := bA.cell 2
  have a3 : w0.cell? ⟨w.heap.size, 3, none⟩ = some (.slice kidsA kidsN kidsC) := bA.cell 3
  have z1 : w0.cell? ⟨w.heap.size + 1, 1, none⟩ = some (.string Zname) := bC.cell 1
  have z2 : w0.cell? ⟨w.heap.size + 1, 2, none⟩ = some (.slice ZlabelsA ZlabelsN ZlabelsC) := bC.cell 2
  have z3 : w0.cell? ⟨w.heap.size + 1, 3, none⟩ = some (.slice ZkidsA ZkidsN ZkidsC) := bC.cell 3
  have HCW := implLabW_any 86 (rec := rec) hM HREC.out whyNot_enter (kind := 5) (at_ := at_) hat (B := B) (cs := [.int .i64 kind, .string name, .slice labelsA labelsN labelsC, .slice kidsA kidsN kidsC]) (ds := [.int .i64 kind, .string Zname, .slice ZlabelsA ZlabelsN ZlabelsC, .slice ZkidsA ZkidsN ZkidsC]) (w := w0) (Nat.le_trans hB hB0.size) (hT.below hB0) (SX.out.labs (in_lab HK.out)) (.inl (kids_zero HK.out SX.out.right)) HHX.out HHY.out (Ty.close_ (R_labels.out.below (hB0.mono hB)) (R_kids.out.below (hB0.mono hB))) (Ty.close_ (R_Zlabels.out.below (hB0.mono hB)) (R_Zkids.out.below (hB0.mono hB)))
  obtain ⟨R2, hR2⟩ : ∃ r, labW rec 5 at_ labels kids Zlabels Zkids = r := ⟨_, rfl⟩
  unfold WQ at HCW
  rw [hR2] at HCW
  obtain ⟨RK, RS, RN, HRK, HRS, HRN⟩ := why3 R2
  rw [HRK.out, HRS.out, HRN.out] at HCW
  replace HCW := Lib.hid HCW
  have HF : Hid (R = R2) := by show _ = _; rw [HR.out, ← hR2]; exact whyK_lab (.inr HK.out)
  clear hR2
  rcases HCS.out with t1 | ⟨t1, t2⟩
  all_goals
    go_wp2_with fail
    refine HCW.out.mono ?_
    rintro e wq ⟨rfl, hbq⟩
    have hBq := hB0.trans (hbq.mono (by omega))
    have hsq := hbq.size
    have bRq := bR.step hbq
    obtain ⟨r0, r1, f0, f1⟩ := zr bRq
    go_wp2_with fail
    obtain ⟨n0, n1, nB⟩ := ret3 bRq hBq (by omega) (RK) (RS)
    exact bodyPost_ret (v := .tuple #[.agg #[.int .i64 RK, .string RS], .bool RN]) (by simp [results, Tryz.results86, go_sem, n0, n1]) rfl ⟨ret_why (by rw [HF.out, HRK.out]) (by rw [HF.out, HRS.out]) (by rw [HF.out, HRN.out]), nB⟩
set_option maxHeartbeats 12800000 in
theorem implWhy_20 {rec : Ty → Ty → ByteArray → Why} {n M : Nat} (hM : M ≤ 1000000) (hrec : WhyC 86 rec n M) {kind : Int} (hk : kind = 20 ∨ kind = 21) {name Zname at_ : ByteArray} {labels Zlabels : List ByteArray} {kids Zkids : List Ty} (hat : at_.size + 32 ≤ M) {B : Nat} {cs ds : List Value} {w : World} (hB : B ≤ w.heap.size) (hT : TabP w) (hx : OkT (n + 1) ⟨kind, name, labels, kids⟩) (hy : OkT (n + 1) ⟨kind, Zname, Zlabels, Zkids⟩) (h : RepC w B (Ty.pd ⟨kind, name, labels, kids⟩) cs) (k : RepC w B (Ty.pd ⟨kind, Zname, Zlabels, Zkids⟩) ds) :
    Calls Tryz.prog 86 #[.agg cs.toArray, .agg ds.toArray, .string at_] w fun e w' => WQ (whyK rec kind name labels kids Zname Zlabels Zkids at_) w e w' := by
  have HHX := Lib.hid hx
  have HHY := Lib.hid hy
  obtain ⟨labelsV, kidsV, rfl, r_labels, r_kids⟩ := Ty.open_ h
  obtain ⟨labelsA, labelsN, labelsC, rfl⟩ := r_labels.form
  have R_labels := Lib.hid r_labels
  clear r_labels
  obtain ⟨kidsA, kidsN, kidsC, rfl⟩ := r_kids.form
  have R_kids := Lib.hid r_kids
  clear r_kids
  obtain ⟨ZlabelsV, ZkidsV, rfl, r_Zlabels, r_Zkids⟩ := Ty.open_ k
  obtain ⟨ZlabelsA, ZlabelsN, ZlabelsC, rfl⟩ := r_Zlabels.form
  have R_Zlabels := Lib.hid r_Zlabels
  clear r_Zlabels
  obtain ⟨ZkidsA, ZkidsN, ZkidsC, rfl⟩ := r_Zkids.form
  have R_Zkids := Lib.hid r_Zkids
  clear r_Zkids
  clear h k
  have HOKx := Lib.hid (okT_kids hx)
  have HOKy := Lib.hid (okT_kids hy)
  have SX := Lib.hid (shF hx.2)
  have SY := Lib.hid (shF hy.2)
  clear hx hy
  have HREC := Lib.hid hrec
  clear hrec
  obtain ⟨R, hR⟩ : ∃ R : Why, R = whyK rec kind name labels kids Zname Zlabels Zkids at_ := ⟨_, rfl⟩
  rw [← hR]
  have HR := Lib.hid hR
  clear hR
  have HK := Lib.hid hk
  have HNU : Hid (isNum kind = false) := by show _ = _; rcases hk with rfl | rfl <;> rfl
  have hkk : (kind != kind) = false := by simp
  have h12 : (kind == 12) = false := by rcases hk with rfl | rfl <;> rfl
  have h13 : (kind == 13) = false := by rcases hk with rfl | rfl <;> rfl
  have h14 : (kind == 14) = false := by rcases hk with rfl | rfl <;> rfl
  have h15 : (kind == 15) = false := by rcases hk with rfl | rfl <;> rfl
  have h16 : (kind == 16) = false := by rcases hk with rfl | rfl <;> rfl
  have h17 : (kind == 17) = false := by rcases hk with rfl | rfl <;> rfl
  have h18 : (kind == 18) = false := by rcases hk with rfl | rfl <;> rfl
  have h19 : (kind == 19) = false := by rcases hk with rfl | rfl <;> rfl
  have HCS : Hid ((kind == 20) = true ∨ ((kind == 20) = false ∧ (kind == 21) = true)) := by show _ ∨ _; rcases hk with rfl | rfl <;> simp
  clear hk
  by_cases hn : name = Zname
  case neg =>
    have HF : Hid (R = some (6, at_)) := by show _ = _; rw [HR.out, whyK_own HK.out, if_neg hn]
    have hne : (name.toList == Zname.toList) = false := str_ne2 hn
    have hne2 : (name.toList != Zname.toList) = true := by simpa using hne
    obtain ⟨w0, hw0, bA, bC, bR, hB0, hs0⟩ := box3 w 60 #[.int .i64 kind, .string name, .slice labelsA labelsN labelsC, .slice kidsA kidsN kidsC] #[.int .i64 kind, .string Zname, .slice ZlabelsA ZlabelsN ZlabelsC, .slice ZkidsA ZkidsN ZkidsC]
    have HW0 := Lib.hid hw0
    clear hw0
    go_enter Tryz.func86, Tryz.ntmps86
    go_wp2_with fail
    rw [← HW0.out]
    clear HW0
    have a0 : w0.cell? ⟨w.heap.size, 0, none⟩ = some (.int .i64 kind) := bA.cell 0
    have z0 : w0.cell? ⟨w.heap.size + 1, 0, none⟩ = some (.int .i64 kind) := bC.cell 0
    refine (implNumRange_v kind w0 (numLo_no HNU.out) (numHi_no HNU.out) HNU.out).mono ?_
    rintro e wn ⟨rfl, hwn⟩
    subst hwn
    go_wp2_with fail
    refine (implNumRange_v kind w0 (numLo_no HNU.out) (numHi_no HNU.out) HNU.out).mono ?_
    rintro e wn ⟨rfl, hwn⟩
    subst hwn
    have a1 : w0.cell? ⟨w.heap.size, 1, none⟩ = some (.string name) := bA.cell 1
    have z1 : w0.cell? ⟨w.heap.size + 1, 1, none⟩ = some (.string Zname) := bC.cell 1
    clear hn
    rcases HCS.out with t1 | ⟨t1, t2⟩
    all_goals
      go_wp2_with fail
      refine (implNo_any 6 at_ _).mono ?_
      rintro e wz ⟨rfl, hbz⟩
      have hBz := hB0.trans (hbz.mono (by omega))
      have bRz := bR.step hbz
      have hsz := hbz.size
      obtain ⟨r0, r1, f0, f1⟩ := zr bRz
      go_wp2_with fail
      obtain ⟨n0, n1, nB⟩ := ret3 bRz hBz (by omega) (6) (at_)
      exact bodyPost_ret (v := .tuple #[.agg #[.int .i64 6, .string at_], .bool true]) (by simp [results, Tryz.results86, go_sem, n0, n1]) rfl ⟨ret_why (by rw [HF.out]; rfl) (by rw [HF.out]; rfl) (by rw [HF.out]; rfl), nB⟩
  subst hn
  have HF : Hid (R = none) := by show _ = _; rw [HR.out, whyK_own HK.out, if_pos rfl]
  obtain ⟨w0, hw0, bA, bC, bR, hB0, hs0⟩ := box3 w 60 #[.int .i64 kind, .string name, .slice labelsA labelsN labelsC, .slice kidsA kidsN kidsC] #[.int .i64 kind, .string name, .slice ZlabelsA ZlabelsN ZlabelsC, .slice ZkidsA ZkidsN ZkidsC]
  have HW0 := Lib.hid hw0
  clear hw0
  go_enter Tryz.func86, Tryz.ntmps86
  go_wp2_with fail
  rw [← HW0.out]
  clear HW0
  have a0 : w0.cell? ⟨w.heap.size, 0, none⟩ = some (.int .i64 kind) := bA.cell 0
  have z0 : w0.cell? ⟨w.heap.size + 1, 0, none⟩ = some (.int .i64 kind) := bC.cell 0
  refine (implNumRange_v kind w0 (numLo_no HNU.out) (numHi_no HNU.out) HNU.out).mono ?_
  rintro e wn ⟨rfl, hwn⟩
  subst hwn
  go_wp2_with fail
  refine (implNumRange_v kind w0 (numLo_no HNU.out) (numHi_no HNU.out) HNU.out).mono ?_
  rintro e wn ⟨rfl, hwn⟩
  subst hwn
  have a1 : w0.cell? ⟨w.heap.size, 1, none⟩ = some (.string name) := bA.cell 1
  have z1 : w0.cell? ⟨w.heap.size + 1, 1, none⟩ = some (.string name) := bC.cell 1
  rcases HCS.out with t1 | ⟨t1, t2⟩
  all_goals
    go_wp2_with fail
    refine (implNone_any _).mono ?_
    rintro e wz ⟨rfl, hbz⟩
    have hBz := hB0.trans (hbz.mono (by omega))
    have bRz := bR.step hbz
    have hsz := hbz.size
    obtain ⟨r0, r1, f0, f1⟩ := zr bRz
    go_wp2_with fail
    obtain ⟨n0, n1, nB⟩ := ret3 bRz hBz (by omega) (0) (⟨#[]⟩)
    exact bodyPost_ret (v := .tuple #[.agg #[.int .i64 0, .string { data := #[] }], .bool false]) (by simp [results, Tryz.results86, go_sem, n0, n1]) rfl ⟨ret_why (by rw [HF.out]; rfl) (by rw [HF.out]; rfl) (by rw [HF.out]; rfl), nB⟩
set_option maxHeartbeats 12800000 in
theorem implWhy_22 {rec : Ty → Ty → ByteArray → Why} {n M : Nat} (hM : M ≤ 1000000) (hrec : WhyC 86 rec n M) {kind : Int} (hk : kind = 22 ∨ kind = 23) {name Zname at_ : ByteArray} {labels Zlabels : List ByteArray} {kids Zkids : List Ty} (hat : at_.size + 32 ≤ M) {B : Nat} {cs ds : List Value} {w : World} (hB : B ≤ w.heap.size) (hT : TabP w) (hx : OkT (n + 1) ⟨kind, name, labels, kids⟩) (hy : OkT (n + 1) ⟨kind, Zname, Zlabels, Zkids⟩) (h : RepC w B (Ty.pd ⟨kind, name, labels, kids⟩) cs) (k : RepC w B (Ty.pd ⟨kind, Zname, Zlabels, Zkids⟩) ds) :
    Calls Tryz.prog 86 #[.agg cs.toArray, .agg ds.toArray, .string at_] w fun e w' => WQ (whyK rec kind name labels kids Zname Zlabels Zkids at_) w e w' := by
  have HHX := Lib.hid hx
  have HHY := Lib.hid hy
  obtain ⟨labelsV, kidsV, rfl, r_labels, r_kids⟩ := Ty.open_ h
  obtain ⟨labelsA, labelsN, labelsC, rfl⟩ := r_labels.form
  have R_labels := Lib.hid r_labels
  clear r_labels
  obtain ⟨kidsA, kidsN, kidsC, rfl⟩ := r_kids.form
  have R_kids := Lib.hid r_kids
  clear r_kids
  obtain ⟨ZlabelsV, ZkidsV, rfl, r_Zlabels, r_Zkids⟩ := Ty.open_ k
  obtain ⟨ZlabelsA, ZlabelsN, ZlabelsC, rfl⟩ := r_Zlabels.form
  have R_Zlabels := Lib.hid r_Zlabels
  clear r_Zlabels
  obtain ⟨ZkidsA, ZkidsN, ZkidsC, rfl⟩ := r_Zkids.form
  have R_Zkids := Lib.hid r_Zkids
  clear r_Zkids
  clear h k
  have HOKx := Lib.hid (okT_kids hx)
  have HOKy := Lib.hid (okT_kids hy)
  have SX := Lib.hid (shF hx.2)
  have SY := Lib.hid (shF hy.2)
  clear hx hy
  have HREC := Lib.hid hrec
  clear hrec
  obtain ⟨R, hR⟩ : ∃ R : Why, R = whyK rec kind name labels kids Zname Zlabels Zkids at_ := ⟨_, rfl⟩
  rw [← hR]
  have HR := Lib.hid hR
  clear hR
  obtain ⟨_, _, _, he, hn_kids, hm_kids, hat_kids⟩ := rep_row Ty.pd_length (by decide) R_kids.out
  injection he with e1 e2 e3
  subst e1 e2 e3
  unfold maxLen at hm_kids
  have HN_kids := Lib.hid hn_kids
  clear hn_kids
  obtain ⟨_, _, _, he, hn_Zkids, hm_Zkids, hat_Zkids⟩ := rep_row Ty.pd_length (by decide) R_Zkids.out
  injection he with e1 e2 e3
  subst e1 e2 e3
  unfold maxLen at hm_Zkids
  have HN_Zkids := Lib.hid hn_Zkids
  clear hn_Zkids
  have HK := Lib.hid hk
  have HNU : Hid (isNum kind = false) := by show _ = _; rcases hk with rfl | rfl <;> rfl
  have hkk : (kind != kind) = false := by simp
  have h12 : (kind == 12) = false := by rcases hk with rfl | rfl <;> rfl
  have h13 : (kind == 13) = false := by rcases hk with rfl | rfl <;> rfl
  have h14 : (kind == 14) = false := by rcases hk with rfl | rfl <;> rfl
  have h15 : (kind == 15) = false := by rcases hk with rfl | rfl <;> rfl
  have h16 : (kind == 16) = false := by rcases hk with rfl | rfl <;> rfl
  have h17 : (kind == 17) = false := by rcases hk with rfl | rfl <;> rfl
  have h18 : (kind == 18) = false := by rcases hk with rfl | rfl <;> rfl
  have h19 : (kind == 19) = false := by rcases hk with rfl | rfl <;> rfl
  have h20 : (kind == 20) = false := by rcases hk with rfl | rfl <;> rfl
  have h21 : (kind == 21) = false := by rcases hk with rfl | rfl <;> rfl
  have HCS : Hid ((kind == 22) = true ∨ ((kind == 22) = false ∧ (kind == 23) = true)) := by show _ ∨ _; rcases hk with rfl | rfl <;> simp
  clear hk
  have hkn : kidsN = 1 := by have := kids_one (.inr (.inr HK.out)) SX.out.right; have := HN_kids.out; omega
  have hkz : ZkidsN = 1 := by have := kids_one (.inr (.inr HK.out)) SY.out.right; have := HN_Zkids.out; omega
  have hpos : 0 < kidsN := by omega
  have hposz : 0 < ZkidsN := by omega
  have hposI : (0 : Int) < (kidsN : Int) := by omega
  have hposzI : (0 : Int) < (ZkidsN : Int) := by omega
  clear hkn hkz
  obtain ⟨w0, hw0, bA, bC, bR, hB0, hs0⟩ := box3 w 60 #[.int .i64 kind, .string name, .slice labelsA labelsN labelsC, .slice kidsA kidsN kidsC] #[.int .i64 kind, .string Zname, .slice ZlabelsA ZlabelsN ZlabelsC, .slice ZkidsA ZkidsN ZkidsC]
  have HW0 := Lib.hid hw0
  clear hw0
  go_enter Tryz.func86, Tryz.ntmps86
  go_wp2_with fail
  rw [← HW0.out]
  clear HW0
  have a0 : w0.cell? ⟨w.heap.size, 0, none⟩ = some (.int .i64 kind) := bA.cell 0
  have z0 : w0.cell? ⟨w.heap.size + 1, 0, none⟩ = some (.int .i64 kind) := bC.cell 0
  refine (implNumRange_v kind w0 (numLo_no HNU.out) (numHi_no HNU.out) HNU.out).mono ?_
  rintro e wn ⟨rfl, hwn⟩
  subst hwn
  go_wp2_with fail
  refine (implNumRange_v kind w0 (numLo_no HNU.out) (numHi_no HNU.out) HNU.out).mono ?_
  rintro e wn ⟨rfl, hwn⟩
  subst hwn
  have a3 : w0.cell? ⟨w.heap.size, 3, none⟩ = some (.slice kidsA kidsN kidsC) := bA.cell 3
  have z3 : w0.cell? ⟨w.heap.size + 1, 3, none⟩ = some (.slice ZkidsA ZkidsN ZkidsC) := bC.cell 3
  obtain ⟨g, off, rfl, hg_kids, hcell_kids⟩ := hat_kids (by omega)
  obtain ⟨x, hx_x, hmem_x⟩ := at_lt HN_kids.out hpos
  obtain ⟨x_kind, x_name, x_labels, x_kids⟩ := x
  obtain ⟨x_labelsV, x_kidsV, c_x_kind, c_x_name, c_x_labels, c_x_kids, R_x_labels, R_x_kids⟩ := tyAt (k := 0) (a0 := off) (a1 := off + 1) (a2 := off + 2) (a3 := off + 3) (hB0.mono (Nat.le_refl _)) hg_kids hB hcell_kids hx_x ⟨rfl, rfl, rfl, rfl⟩
  replace R_x_labels := Lib.hid R_x_labels
  replace R_x_kids := Lib.hid R_x_kids
  have HX_x := Lib.hid hx_x
  have HM_x := Lib.hid hmem_x
  clear hx_x hmem_x
  obtain ⟨g2, off2, rfl, hg_Zkids, hcell_Zkids⟩ := hat_Zkids (by omega)
  obtain ⟨y, hx_y, hmem_y⟩ := at_lt HN_Zkids.out hposz
  obtain ⟨y_kind, y_name, y_labels, y_kids⟩ := y
  obtain ⟨y_labelsV, y_kidsV, c_y_kind, c_y_name, c_y_labels, c_y_kids, R_y_labels, R_y_kids⟩ := tyAt (k := 0) (a0 := off2) (a1 := off2 + 1) (a2 := off2 + 2) (a3 := off2 + 3) (hB0.mono (Nat.le_refl _)) hg_Zkids hB hcell_Zkids hx_y ⟨rfl, rfl, rfl, rfl⟩
  replace R_y_labels := Lib.hid R_y_labels
  replace R_y_kids := Lib.hid R_y_kids
  have HX_y := Lib.hid hx_y
  have HM_y := Lib.hid hmem_y
  clear hx_y hmem_y
  have HF0 : Hid (R = if tyEq 100 ⟨x_kind, x_name, x_labels, x_kids⟩ ⟨y_kind, y_name, y_labels, y_kids⟩ then none else some (3, at_)) := by show _ = _; rw [HR.out, whyK_str HK.out HX_x.out HX_y.out]
  have HC := fun (V : World) (hV : Keep (w.heap.size + 1 + 1) (w.heap.size + 1 + 1 + 1) w0 V) => implSameTypeT_any ⟨x_kind, x_name, x_labels, x_kids⟩ ⟨y_kind, y_name, y_labels, y_kids⟩ (B := B) (cs := [.int .i64 x_kind, .string x_name, x_labelsV, x_kidsV]) (ds := [.int .i64 y_kind, .string y_name, y_labelsV, y_kidsV]) (w := V) (Nat.le_trans (Nat.le_trans hB hB0.size) hV.size) ((Ty.close_ R_x_labels.out R_x_kids.out).below (kb hV (by omega))) ((Ty.close_ R_y_labels.out R_y_kids.out).below (kb hV (by omega)))
  obtain ⟨EQ, hEQ⟩ : ∃ z : Bool, tyEq 100 ⟨x_kind, x_name, x_labels, x_kids⟩ ⟨y_kind, y_name, y_labels, y_kids⟩ = z := ⟨_, rfl⟩
  rw [hEQ] at HC
  have HEQ := Lib.hid hEQ
  clear hEQ
  replace HC := Lib.hid HC
  have HS : Hid (∀ V, Keep (w.heap.size + 1 + 1) (w.heap.size + 1 + 1 + 1) w0 V → V.cell? ⟨w.heap.size, 3, none⟩ = some (.slice (some ⟨g, off, none⟩) kidsN kidsC) ∧ V.cell? ⟨w.heap.size + 1, 3, none⟩ = some (.slice (some ⟨g2, off2, none⟩) ZkidsN ZkidsC) ∧ V.cell? ⟨g, off, none⟩ = some (.int .i64 x_kind) ∧ V.cell? ⟨g, off + 1, none⟩ = some (.string x_name) ∧ V.cell? ⟨g, off + 2, none⟩ = some (x_labelsV) ∧ V.cell? ⟨g, off + 3, none⟩ = some (x_kidsV) ∧ V.cell? ⟨g2, off2, none⟩ = some (.int .i64 y_kind) ∧ V.cell? ⟨g2, off2 + 1, none⟩ = some (.string y_name) ∧ V.cell? ⟨g2, off2 + 2, none⟩ = some (y_labelsV) ∧ V.cell? ⟨g2, off2 + 3, none⟩ = some (y_kidsV)) := Lib.hid fun V hV => ⟨(hV.cell (p := ⟨w.heap.size, 3, none⟩) (by simp only; omega) (by simp only; omega)).trans a3, (hV.cell (p := ⟨w.heap.size + 1, 3, none⟩) (by simp only; omega) (by simp only; omega)).trans z3, (hV.cell (p := ⟨g, off, none⟩) (by simp only; omega) (by simp only; omega)).trans c_x_kind, (hV.cell (p := ⟨g, off + 1, none⟩) (by simp only; omega) (by simp only; omega)).trans c_x_name, (hV.cell (p := ⟨g, off + 2, none⟩) (by simp only; omega) (by simp only; omega)).trans c_x_labels, (hV.cell (p := ⟨g, off + 3, none⟩) (by simp only; omega) (by simp only; omega)).trans c_x_kids, (hV.cell (p := ⟨g2, off2, none⟩) (by simp only; omega) (by simp only; omega)).trans c_y_kind, (hV.cell (p := ⟨g2, off2 + 1, none⟩) (by simp only; omega) (by simp only; omega)).trans c_y_name, (hV.cell (p := ⟨g2, off2 + 2, none⟩) (by simp only; omega) (by simp only; omega)).trans c_y_labels, (hV.cell (p := ⟨g2, off2 + 3, none⟩) (by simp only; omega) (by simp only; omega)).trans c_y_kids⟩
  clear bA bC
  rcases HCS.out with t1 | ⟨t1, t2⟩
  all_goals
    go_wp2_with fail
    go_region_held3 (fun w' => w'.cell? ⟨w.heap.size, 3, none⟩ = some (.slice (some ⟨g, off, none⟩) kidsN kidsC) ∧ w'.cell? ⟨w.heap.size + 1, 3, none⟩ = some (.slice (some ⟨g2, off2, none⟩) ZkidsN ZkidsC) ∧ w'.cell? ⟨g, off, none⟩ = some (.int .i64 x_kind) ∧ w'.cell? ⟨g, off + 1, none⟩ = some (.string x_name) ∧ w'.cell? ⟨g, off + 2, none⟩ = some (x_labelsV) ∧ w'.cell? ⟨g, off + 3, none⟩ = some (x_kidsV) ∧ w'.cell? ⟨g2, off2, none⟩ = some (.int .i64 y_kind) ∧ w'.cell? ⟨g2, off2 + 1, none⟩ = some (.string y_name) ∧ w'.cell? ⟨g2, off2 + 2, none⟩ = some (y_labelsV) ∧ w'.cell? ⟨g2, off2 + 3, none⟩ = some (y_kidsV))
      (first | exact HS.out _ (by repeat (first | exact hq1 | exact hq2 | exact Keep.refl _ _ _ | refine Keep.drew ?_ | refine Keep.alloc ?_ _ | refine Keep.setAt ?_ _ _ | refine Keep.newAt ?_ (Nat.le_refl _) _ _ | refine Keep.newAt ?_ hbWd.size _ _ | refine Keep.newAt ?_ hbW.size _ _)))
      (first | (go_at_call 121; refine (HC.out _ (by repeat (first | exact hq1 | exact hq2 | exact Keep.refl _ _ _ | refine Keep.drew ?_ | refine Keep.alloc ?_ _ | refine Keep.setAt ?_ _ _ | refine Keep.newAt ?_ (Nat.le_refl _) _ _ | refine Keep.newAt ?_ hbWd.size _ _ | refine Keep.newAt ?_ hbW.size _ _))).mono ?_; rintro e wq ⟨rfl, hbq⟩; have hbW := (Below.refl w0.heap.size w0).drew.trans hbq; have hq1 : Keep (w.heap.size + 1 + 1) (w.heap.size + 1 + 1 + 1) w0 wq := Keep.of_below hbW))
    all_goals
      have hBq := hB0.trans (hbW.mono (by omega))
      have bRq := bR.step hbW
      have hsq := hbW.size
      cases EQ
      case false =>
        have HF : Hid (R = some (3, at_)) := by show _ = _; rw [HF0.out, HEQ.out]; rfl
        go_wp2_with fail
        refine (implNo_any 3 at_ _).mono ?_
        rintro e wz ⟨rfl, hbz⟩
        have hBz := hBq.trans (hbz.mono (by omega))
        have bRz := bRq.step hbz
        have hsz := hbz.size
        obtain ⟨r0, r1, f0, f1⟩ := zr bRz
        go_wp2_with fail
        obtain ⟨n0, n1, nB⟩ := ret3 bRz hBz (by omega) (3) (at_)
        exact bodyPost_ret (v := .tuple #[.agg #[.int .i64 3, .string at_], .bool true]) (by simp [results, Tryz.results86, go_sem, n0, n1]) rfl ⟨ret_why (by rw [HF.out]; rfl) (by rw [HF.out]; rfl) (by rw [HF.out]; rfl), nB⟩
      case true =>
        have HF : Hid (R = none) := by show _ = _; rw [HF0.out, HEQ.out]; rfl
        go_wp2_with fail
        refine (implNone_any _).mono ?_
        rintro e wz ⟨rfl, hbz⟩
        have hBz := hBq.trans (hbz.mono (by omega))
        have bRz := bRq.step hbz
        have hsz := hbz.size
        obtain ⟨r0, r1, f0, f1⟩ := zr bRz
        go_wp2_with fail
        obtain ⟨n0, n1, nB⟩ := ret3 bRz hBz (by omega) (0) (⟨#[]⟩)
        exact bodyPost_ret (v := .tuple #[.agg #[.int .i64 0, .string { data := #[] }], .bool false]) (by simp [results, Tryz.results86, go_sem, n0, n1]) rfl ⟨ret_why (by rw [HF.out]; rfl) (by rw [HF.out]; rfl) (by rw [HF.out]; rfl), nB⟩
set_option maxHeartbeats 12800000 in
theorem implWhy_else {rec : Ty → Ty → ByteArray → Why} {n M : Nat} (hM : M ≤ 1000000) (hrec : WhyC 86 rec n M) {kind : Int} (hk : ¬ (12 ≤ kind ∧ kind ≤ 23)) (hnum : isNum kind = false) {name Zname at_ : ByteArray} {labels Zlabels : List ByteArray} {kids Zkids : List Ty} (hat : at_.size + 32 ≤ M) {B : Nat} {cs ds : List Value} {w : World} (hB : B ≤ w.heap.size) (hT : TabP w) (hx : OkT (n + 1) ⟨kind, name, labels, kids⟩) (hy : OkT (n + 1) ⟨kind, Zname, Zlabels, Zkids⟩) (h : RepC w B (Ty.pd ⟨kind, name, labels, kids⟩) cs) (k : RepC w B (Ty.pd ⟨kind, Zname, Zlabels, Zkids⟩) ds) :
    Calls Tryz.prog 86 #[.agg cs.toArray, .agg ds.toArray, .string at_] w fun e w' => WQ (whyK rec kind name labels kids Zname Zlabels Zkids at_) w e w' := by
  have HHX := Lib.hid hx
  have HHY := Lib.hid hy
  obtain ⟨labelsV, kidsV, rfl, r_labels, r_kids⟩ := Ty.open_ h
  obtain ⟨labelsA, labelsN, labelsC, rfl⟩ := r_labels.form
  have R_labels := Lib.hid r_labels
  clear r_labels
  obtain ⟨kidsA, kidsN, kidsC, rfl⟩ := r_kids.form
  have R_kids := Lib.hid r_kids
  clear r_kids
  obtain ⟨ZlabelsV, ZkidsV, rfl, r_Zlabels, r_Zkids⟩ := Ty.open_ k
  obtain ⟨ZlabelsA, ZlabelsN, ZlabelsC, rfl⟩ := r_Zlabels.form
  have R_Zlabels := Lib.hid r_Zlabels
  clear r_Zlabels
  obtain ⟨ZkidsA, ZkidsN, ZkidsC, rfl⟩ := r_Zkids.form
  have R_Zkids := Lib.hid r_Zkids
  clear r_Zkids
  clear h k
  have HOKx := Lib.hid (okT_kids hx)
  have HOKy := Lib.hid (okT_kids hy)
  have SX := Lib.hid (shF hx.2)
  have SY := Lib.hid (shF hy.2)
  clear hx hy
  have HREC := Lib.hid hrec
  clear hrec
  obtain ⟨R, hR⟩ : ∃ R : Why, R = whyK rec kind name labels kids Zname Zlabels Zkids at_ := ⟨_, rfl⟩
  rw [← hR]
  have HR := Lib.hid hR
  clear hR
  have HF : Hid (R = none) := by show _ = _; rw [HR.out, whyK_else hk]
  have HNU := Lib.hid hnum
  have hkk : (kind != kind) = false := by simp
  have h12 : (kind == 12) = false := by simp; omega
  have h13 : (kind == 13) = false := by simp; omega
  have h14 : (kind == 14) = false := by simp; omega
  have h15 : (kind == 15) = false := by simp; omega
  have h16 : (kind == 16) = false := by simp; omega
  have h17 : (kind == 17) = false := by simp; omega
  have h18 : (kind == 18) = false := by simp; omega
  have h19 : (kind == 19) = false := by simp; omega
  have h20 : (kind == 20) = false := by simp; omega
  have h21 : (kind == 21) = false := by simp; omega
  have h22 : (kind == 22) = false := by simp; omega
  have h23 : (kind == 23) = false := by simp; omega
  clear hk hnum
  obtain ⟨w0, hw0, bA, bC, bR, hB0, hs0⟩ := box3 w 60 #[.int .i64 kind, .string name, .slice labelsA labelsN labelsC, .slice kidsA kidsN kidsC] #[.int .i64 kind, .string Zname, .slice ZlabelsA ZlabelsN ZlabelsC, .slice ZkidsA ZkidsN ZkidsC]
  have HW0 := Lib.hid hw0
  clear hw0
  go_enter Tryz.func86, Tryz.ntmps86
  go_wp2_with fail
  rw [← HW0.out]
  clear HW0
  have a0 : w0.cell? ⟨w.heap.size, 0, none⟩ = some (.int .i64 kind) := bA.cell 0
  have z0 : w0.cell? ⟨w.heap.size + 1, 0, none⟩ = some (.int .i64 kind) := bC.cell 0
  refine (implNumRange_v kind w0 (numLo_no HNU.out) (numHi_no HNU.out) HNU.out).mono ?_
  rintro e wn ⟨rfl, hwn⟩
  subst hwn
  go_wp2_with fail
  refine (implNumRange_v kind w0 (numLo_no HNU.out) (numHi_no HNU.out) HNU.out).mono ?_
  rintro e wn ⟨rfl, hwn⟩
  subst hwn
  go_wp2_with fail
  refine (implNone_any _).mono ?_
  rintro e wz ⟨rfl, hbz⟩
  have hBz := hB0.trans (hbz.mono (by omega))
  have bRz := bR.step hbz
  have hsz := hbz.size
  obtain ⟨r0, r1, f0, f1⟩ := zr bRz
  go_wp2_with fail
  obtain ⟨n0, n1, nB⟩ := ret3 bRz hBz (by omega) (0) (⟨#[]⟩)
  exact bodyPost_ret (v := .tuple #[.agg #[.int .i64 0, .string { data := #[] }], .bool false]) (by simp [results, Tryz.results86, go_sem, n0, n1]) rfl ⟨ret_why (by rw [HF.out]; rfl) (by rw [HF.out]; rfl) (by rw [HF.out]; rfl), nB⟩
set_option maxHeartbeats 12800000 in
theorem implWhy_num {rec : Ty → Ty → ByteArray → Why} {n M : Nat} (hM : M ≤ 1000000) (hrec : WhyC 86 rec n M) {kind Zkind : Int} (h1 : isNum kind = true) (h2 : isNum Zkind = true) {name Zname at_ : ByteArray} {labels Zlabels : List ByteArray} {kids Zkids : List Ty} (hat : at_.size + 32 ≤ M) {B : Nat} {cs ds : List Value} {w : World} (hB : B ≤ w.heap.size) (hT : TabP w) (hx : OkT (n + 1) ⟨kind, name, labels, kids⟩) (hy : OkT (n + 1) ⟨Zkind, Zname, Zlabels, Zkids⟩) (h : RepC w B (Ty.pd ⟨kind, name, labels, kids⟩) cs) (k : RepC w B (Ty.pd ⟨Zkind, Zname, Zlabels, Zkids⟩) ds) :
    Calls Tryz.prog 86 #[.agg cs.toArray, .agg ds.toArray, .string at_] w fun e w' => WQ (if numLo Zkind ≤ numLo kind ∧ numHi kind ≤ numHi Zkind then none else some (2, at_)) w e w' := by
  obtain ⟨labelsV, kidsV, rfl, r_labels, r_kids⟩ := Ty.open_ h
  obtain ⟨labelsA, labelsN, labelsC, rfl⟩ := r_labels.form
  have R_labels := Lib.hid r_labels
  clear r_labels
  obtain ⟨kidsA, kidsN, kidsC, rfl⟩ := r_kids.form
  have R_kids := Lib.hid r_kids
  clear r_kids
  obtain ⟨ZlabelsV, ZkidsV, rfl, r_Zlabels, r_Zkids⟩ := Ty.open_ k
  obtain ⟨ZlabelsA, ZlabelsN, ZlabelsC, rfl⟩ := r_Zlabels.form
  have R_Zlabels := Lib.hid r_Zlabels
  clear r_Zlabels
  obtain ⟨ZkidsA, ZkidsN, ZkidsC, rfl⟩ := r_Zkids.form
  have R_Zkids := Lib.hid r_Zkids
  clear r_Zkids
  clear h k
  obtain ⟨R, hR⟩ : ∃ R : Why, R = if numLo Zkind ≤ numLo kind ∧ numHi kind ≤ numHi Zkind then none else some (2, at_) := ⟨_, rfl⟩
  rw [← hR]
  have HR := Lib.hid hR
  clear hR
  have H1 := Lib.hid h1
  have H2 := Lib.hid h2
  clear h1 h2 hx hy
  obtain ⟨lo, hlo⟩ : ∃ z, numLo kind = z := ⟨_, rfl⟩
  obtain ⟨hi, hhi⟩ : ∃ z, numHi kind = z := ⟨_, rfl⟩
  obtain ⟨Zlo, hZlo⟩ : ∃ z, numLo Zkind = z := ⟨_, rfl⟩
  obtain ⟨Zhi, hZhi⟩ : ∃ z, numHi Zkind = z := ⟨_, rfl⟩
  rw [hlo, hhi, hZlo, hZhi] at HR
  have HLO := Lib.hid hlo
  have HHI := Lib.hid hhi
  have HZLO := Lib.hid hZlo
  have HZHI := Lib.hid hZhi
  clear hlo hhi hZlo hZhi
  by_cases c1 : lo < Zlo
  case pos =>
    have HF : Hid (R = some (2, at_)) := by show _ = _; rw [HR.out, if_neg (by omega)]
    obtain ⟨w0, hw0, bA, bC, bR, hB0, hs0⟩ := box3 w 60 #[.int .i64 kind, .string name, .slice labelsA labelsN labelsC, .slice kidsA kidsN kidsC] #[.int .i64 Zkind, .string Zname, .slice ZlabelsA ZlabelsN ZlabelsC, .slice ZkidsA ZkidsN ZkidsC]
    have HW0 := Lib.hid hw0
    clear hw0
    go_enter Tryz.func86, Tryz.ntmps86
    go_wp2_with fail
    rw [← HW0.out]
    clear HW0
    have a0 : w0.cell? ⟨w.heap.size, 0, none⟩ = some (.int .i64 kind) := bA.cell 0
    have z0 : w0.cell? ⟨w.heap.size + 1, 0, none⟩ = some (.int .i64 Zkind) := bC.cell 0
    refine (implNumRange_v kind w0 HLO.out HHI.out H1.out).mono ?_
    rintro e wn ⟨rfl, hwn⟩
    subst hwn
    go_wp2_with fail
    refine (implNumRange_v Zkind w0 HZLO.out HZHI.out H2.out).mono ?_
    rintro e wn ⟨rfl, hwn⟩
    subst hwn
    go_wp2_with fail
    refine (implNo_any 2 at_ _).mono ?_
    rintro e wz ⟨rfl, hbz⟩
    have hBz := hB0.trans (hbz.mono (by omega))
    have bRz := bR.step hbz
    have hsz := hbz.size
    obtain ⟨r0, r1, f0, f1⟩ := zr bRz
    go_wp2_with fail
    obtain ⟨n0, n1, nB⟩ := ret3 bRz hBz (by omega) (2) (at_)
    exact bodyPost_ret (v := .tuple #[.agg #[.int .i64 2, .string at_], .bool true]) (by simp [results, Tryz.results86, go_sem, n0, n1]) rfl ⟨ret_why (by rw [HF.out]; rfl) (by rw [HF.out]; rfl) (by rw [HF.out]; rfl), nB⟩
  by_cases c2 : Zhi < hi
  case pos =>
    have HF : Hid (R = some (2, at_)) := by show _ = _; rw [HR.out, if_neg (by omega)]
    obtain ⟨w0, hw0, bA, bC, bR, hB0, hs0⟩ := box3 w 60 #[.int .i64 kind, .string name, .slice labelsA labelsN labelsC, .slice kidsA kidsN kidsC] #[.int .i64 Zkind, .string Zname, .slice ZlabelsA ZlabelsN ZlabelsC, .slice ZkidsA ZkidsN ZkidsC]
    have HW0 := Lib.hid hw0
    clear hw0
    go_enter Tryz.func86, Tryz.ntmps86
    go_wp2_with fail
    rw [← HW0.out]
    clear HW0
    have a0 : w0.cell? ⟨w.heap.size, 0, none⟩ = some (.int .i64 kind) := bA.cell 0
    have z0 : w0.cell? ⟨w.heap.size + 1, 0, none⟩ = some (.int .i64 Zkind) := bC.cell 0
    refine (implNumRange_v kind w0 HLO.out HHI.out H1.out).mono ?_
    rintro e wn ⟨rfl, hwn⟩
    subst hwn
    go_wp2_with fail
    refine (implNumRange_v Zkind w0 HZLO.out HZHI.out H2.out).mono ?_
    rintro e wn ⟨rfl, hwn⟩
    subst hwn
    go_wp2_with fail
    refine (implNo_any 2 at_ _).mono ?_
    rintro e wz ⟨rfl, hbz⟩
    have hBz := hB0.trans (hbz.mono (by omega))
    have bRz := bR.step hbz
    have hsz := hbz.size
    obtain ⟨r0, r1, f0, f1⟩ := zr bRz
    go_wp2_with fail
    obtain ⟨n0, n1, nB⟩ := ret3 bRz hBz (by omega) (2) (at_)
    exact bodyPost_ret (v := .tuple #[.agg #[.int .i64 2, .string at_], .bool true]) (by simp [results, Tryz.results86, go_sem, n0, n1]) rfl ⟨ret_why (by rw [HF.out]; rfl) (by rw [HF.out]; rfl) (by rw [HF.out]; rfl), nB⟩
  have HF : Hid (R = none) := by show _ = _; rw [HR.out, if_pos ⟨by omega, by omega⟩]
  obtain ⟨w0, hw0, bA, bC, bR, hB0, hs0⟩ := box3 w 60 #[.int .i64 kind, .string name, .slice labelsA labelsN labelsC, .slice kidsA kidsN kidsC] #[.int .i64 Zkind, .string Zname, .slice ZlabelsA ZlabelsN ZlabelsC, .slice ZkidsA ZkidsN ZkidsC]
  have HW0 := Lib.hid hw0
  clear hw0
  go_enter Tryz.func86, Tryz.ntmps86
  go_wp2_with fail
  rw [← HW0.out]
  clear HW0
  have a0 : w0.cell? ⟨w.heap.size, 0, none⟩ = some (.int .i64 kind) := bA.cell 0
  have z0 : w0.cell? ⟨w.heap.size + 1, 0, none⟩ = some (.int .i64 Zkind) := bC.cell 0
  refine (implNumRange_v kind w0 HLO.out HHI.out H1.out).mono ?_
  rintro e wn ⟨rfl, hwn⟩
  subst hwn
  go_wp2_with fail
  refine (implNumRange_v Zkind w0 HZLO.out HZHI.out H2.out).mono ?_
  rintro e wn ⟨rfl, hwn⟩
  subst hwn
  go_wp2_with fail
  refine (implNone_any _).mono ?_
  rintro e wz ⟨rfl, hbz⟩
  have hBz := hB0.trans (hbz.mono (by omega))
  have bRz := bR.step hbz
  have hsz := hbz.size
  obtain ⟨r0, r1, f0, f1⟩ := zr bRz
  go_wp2_with fail
  obtain ⟨n0, n1, nB⟩ := ret3 bRz hBz (by omega) (0) (⟨#[]⟩)
  exact bodyPost_ret (v := .tuple #[.agg #[.int .i64 0, .string { data := #[] }], .bool false]) (by simp [results, Tryz.results86, go_sem, n0, n1]) rfl ⟨ret_why (by rw [HF.out]; rfl) (by rw [HF.out]; rfl) (by rw [HF.out]; rfl), nB⟩
set_option maxHeartbeats 12800000 in
theorem implWhy_diff {rec : Ty → Ty → ByteArray → Why} {n M : Nat} (hM : M ≤ 1000000) (hrec : WhyC 86 rec n M) {kind Zkind : Int} (hk : ¬ kind = Zkind) (hn : (isNum kind && isNum Zkind) = false) {name Zname at_ : ByteArray} {labels Zlabels : List ByteArray} {kids Zkids : List Ty} (hat : at_.size + 32 ≤ M) {B : Nat} {cs ds : List Value} {w : World} (hB : B ≤ w.heap.size) (hT : TabP w) (hx : OkT (n + 1) ⟨kind, name, labels, kids⟩) (hy : OkT (n + 1) ⟨Zkind, Zname, Zlabels, Zkids⟩) (h : RepC w B (Ty.pd ⟨kind, name, labels, kids⟩) cs) (k : RepC w B (Ty.pd ⟨Zkind, Zname, Zlabels, Zkids⟩) ds) :
    Calls Tryz.prog 86 #[.agg cs.toArray, .agg ds.toArray, .string at_] w fun e w' => WQ (some (1, at_)) w e w' := by
  obtain ⟨labelsV, kidsV, rfl, r_labels, r_kids⟩ := Ty.open_ h
  obtain ⟨labelsA, labelsN, labelsC, rfl⟩ := r_labels.form
  have R_labels := Lib.hid r_labels
  clear r_labels
  obtain ⟨kidsA, kidsN, kidsC, rfl⟩ := r_kids.form
  have R_kids := Lib.hid r_kids
  clear r_kids
  obtain ⟨ZlabelsV, ZkidsV, rfl, r_Zlabels, r_Zkids⟩ := Ty.open_ k
  obtain ⟨ZlabelsA, ZlabelsN, ZlabelsC, rfl⟩ := r_Zlabels.form
  have R_Zlabels := Lib.hid r_Zlabels
  clear r_Zlabels
  obtain ⟨ZkidsA, ZkidsN, ZkidsC, rfl⟩ := r_Zkids.form
  have R_Zkids := Lib.hid r_Zkids
  clear r_Zkids
  clear h k
  obtain ⟨R, hR⟩ : ∃ R : Why, R = some (1, at_) := ⟨_, rfl⟩
  rw [← hR]
  have HR := Lib.hid hR
  clear hR
  have HF : Hid (R = some (1, at_)) := HR.out
  have hne : (kind == Zkind) = false := by simpa using hk
  have hne2 : (kind != Zkind) = true := by simpa using hk
  clear hk hx hy
  obtain ⟨va, hva⟩ : ∃ v, isNum kind = v := ⟨_, rfl⟩
  obtain ⟨vb, hvb⟩ : ∃ v, isNum Zkind = v := ⟨_, rfl⟩
  rw [hva, hvb] at hn
  have HVA := Lib.hid hva
  have HVB := Lib.hid hvb
  clear hva hvb
  obtain ⟨lo, hlo⟩ : ∃ z, numLo kind = z := ⟨_, rfl⟩
  obtain ⟨hi, hhi⟩ : ∃ z, numHi kind = z := ⟨_, rfl⟩
  obtain ⟨Zlo, hZlo⟩ : ∃ z, numLo Zkind = z := ⟨_, rfl⟩
  obtain ⟨Zhi, hZhi⟩ : ∃ z, numHi Zkind = z := ⟨_, rfl⟩
  have HLO := Lib.hid hlo
  have HHI := Lib.hid hhi
  have HZLO := Lib.hid hZlo
  have HZHI := Lib.hid hZhi
  clear hlo hhi hZlo hZhi
  cases va
  case false =>
    clear hn
    obtain ⟨w0, hw0, bA, bC, bR, hB0, hs0⟩ := box3 w 60 #[.int .i64 kind, .string name, .slice labelsA labelsN labelsC, .slice kidsA kidsN kidsC] #[.int .i64 Zkind, .string Zname, .slice ZlabelsA ZlabelsN ZlabelsC, .slice ZkidsA ZkidsN ZkidsC]
    have HW0 := Lib.hid hw0
    clear hw0
    go_enter Tryz.func86, Tryz.ntmps86
    go_wp2_with fail
    rw [← HW0.out]
    clear HW0
    have a0 : w0.cell? ⟨w.heap.size, 0, none⟩ = some (.int .i64 kind) := bA.cell 0
    have z0 : w0.cell? ⟨w.heap.size + 1, 0, none⟩ = some (.int .i64 Zkind) := bC.cell 0
    refine (implNumRange_v kind w0 HLO.out HHI.out HVA.out).mono ?_
    rintro e wn ⟨rfl, hwn⟩
    subst hwn
    go_wp2_with fail
    refine (implNumRange_v Zkind w0 HZLO.out HZHI.out HVB.out).mono ?_
    rintro e wn ⟨rfl, hwn⟩
    subst hwn
    go_wp2_with fail
    refine (implNo_any 1 at_ _).mono ?_
    rintro e wz ⟨rfl, hbz⟩
    have hBz := hB0.trans (hbz.mono (by omega))
    have bRz := bR.step hbz
    have hsz := hbz.size
    obtain ⟨r0, r1, f0, f1⟩ := zr bRz
    go_wp2_with fail
    obtain ⟨n0, n1, nB⟩ := ret3 bRz hBz (by omega) (1) (at_)
    exact bodyPost_ret (v := .tuple #[.agg #[.int .i64 1, .string at_], .bool true]) (by simp [results, Tryz.results86, go_sem, n0, n1]) rfl ⟨ret_why (by rw [HF.out]; rfl) (by rw [HF.out]; rfl) (by rw [HF.out]; rfl), nB⟩
  case true =>
    have hvb : vb = false := by simpa using hn
    subst hvb
    clear hn
    obtain ⟨w0, hw0, bA, bC, bR, hB0, hs0⟩ := box3 w 60 #[.int .i64 kind, .string name, .slice labelsA labelsN labelsC, .slice kidsA kidsN kidsC] #[.int .i64 Zkind, .string Zname, .slice ZlabelsA ZlabelsN ZlabelsC, .slice ZkidsA ZkidsN ZkidsC]
    have HW0 := Lib.hid hw0
    clear hw0
    go_enter Tryz.func86, Tryz.ntmps86
    go_wp2_with fail
    rw [← HW0.out]
    clear HW0
    have a0 : w0.cell? ⟨w.heap.size, 0, none⟩ = some (.int .i64 kind) := bA.cell 0
    have z0 : w0.cell? ⟨w.heap.size + 1, 0, none⟩ = some (.int .i64 Zkind) := bC.cell 0
    refine (implNumRange_v kind w0 HLO.out HHI.out HVA.out).mono ?_
    rintro e wn ⟨rfl, hwn⟩
    subst hwn
    go_wp2_with fail
    refine (implNumRange_v Zkind w0 HZLO.out HZHI.out HVB.out).mono ?_
    rintro e wn ⟨rfl, hwn⟩
    subst hwn
    go_wp2_with fail
    refine (implNo_any 1 at_ _).mono ?_
    rintro e wz ⟨rfl, hbz⟩
    have hBz := hB0.trans (hbz.mono (by omega))
    have bRz := bR.step hbz
    have hsz := hbz.size
    obtain ⟨r0, r1, f0, f1⟩ := zr bRz
    go_wp2_with fail
    obtain ⟨n0, n1, nB⟩ := ret3 bRz hBz (by omega) (1) (at_)
    exact bodyPost_ret (v := .tuple #[.agg #[.int .i64 1, .string at_], .bool true]) (by simp [results, Tryz.results86, go_sem, n0, n1]) rfl ⟨ret_why (by rw [HF.out]; rfl) (by rw [HF.out]; rfl) (by rw [HF.out]; rfl), nB⟩
theorem implWhy_all : ∀ n, n ≤ 10 → WhyC 86 (whyT n) n (1000000 - 32 * n)
  | 0, _ => fun x y at_ B cs ds w hB hT hx => absurd hx.1 (by have := height_pos x; omega)
  | n + 1, hn => by
    have hrec := implWhy_all n (by omega)
    have hM : 1000000 - 32 * n ≤ 1000000 := by omega
    intro x y at_ B cs ds w hB hT hx hy hat h k
    obtain ⟨kind, name, labels, kids⟩ := x
    obtain ⟨Zkind, Zname, Zlabels, Zkids⟩ := y
    have hat' : at_.size + 32 ≤ 1000000 - 32 * n := by omega
    by_cases hk : kind = Zkind
    · subst hk
      cases hnum : isNum kind
      · rw [whyT_same hnum]
        by_cases h12 : 12 ≤ kind ∧ kind ≤ 23
        · have hc : kind = 12 ∨ kind = 13 ∨ kind = 14 ∨ kind = 15 ∨ kind = 16 ∨ kind = 17 ∨ kind = 18 ∨ kind = 19 ∨ kind = 20 ∨ kind = 21 ∨ kind = 22 ∨ kind = 23 := by omega
          rcases hc with rfl | rfl | rfl | rfl | rfl | rfl | rfl | rfl | rfl | rfl | rfl | rfl
          · exact implWhy_12 hM hrec hat' hB hT hx hy h k
          · exact implWhy_13 hM hrec hat' hB hT hx hy h k
          · exact implWhy_14 hM hrec hat' hB hT hx hy h k
          · exact implWhy_15 hM hrec hat' hB hT hx hy h k
          · exact implWhy_16 hM hrec hat' hB hT hx hy h k
          · exact implWhy_17 hM hrec hat' hB hT hx hy h k
          · exact implWhy_18 hM hrec (.inl rfl) hat' hB hT hx hy h k
          · exact implWhy_18 hM hrec (.inr rfl) hat' hB hT hx hy h k
          · exact implWhy_20 hM hrec (.inl rfl) hat' hB hT hx hy h k
          · exact implWhy_20 hM hrec (.inr rfl) hat' hB hT hx hy h k
          · exact implWhy_22 hM hrec (.inl rfl) hat' hB hT hx hy h k
          · exact implWhy_22 hM hrec (.inr rfl) hat' hB hT hx hy h k
        · exact implWhy_else hM hrec h12 hnum hat' hB hT hx hy h k
      · rw [whyT_num hnum hnum]; exact implWhy_num hM hrec hnum hnum hat' hB hT hx hy h k
    · cases hn2 : isNum kind && isNum Zkind
      · rw [whyT_kind hn2 hk]; exact implWhy_diff hM hrec hk hn2 hat' hB hT hx hy h k
      · rw [Bool.and_eq_true] at hn2; rw [whyT_num hn2.1 hn2.2]; exact implWhy_num hM hrec hn2.1 hn2.2 hat' hB hT hx hy h k
end Go.Proofs.YtbafphecjijdmaaGreatDoor

