/-
  Why one type cannot stand for another: impl.numRange, reason, none, whyNotTuple, whyNotLabels, whyNot (by program: gen_why.py).
-/
import Derived.Test.YtbafphecjijdmaaGreatDoorWyW
import Derived.Test.YtbafphecjijdmaaGreatDoorSameTy
import Derived.Test.YtbafphecjijdmaaGreatDoorShape
import Derived.Deep.RegionHeld3
import Derived.Test.YtbafphecjijdmaaGreatDoorFnIdx
import Derived.Shelf.Abstract
namespace Go.Proofs.YtbafphecjijdmaaGreatDoor
open Go.RowKit
set_option linter.unusedVariables false
set_option linter.unusedSimpArgs false
set_option linter.unnecessarySimpa false
set_option maxRecDepth 16000


theorem implNumRange_any (k : Int) (w : World) : Calls Tryz.prog 117 #[.int .i64 k] w fun e w' => e = .returned (.tuple #[.int .i64 (numLo k), .int .i64 (numHi k), .bool (isNum k)]) ∧ w = w' := by
  by_cases h : k = 3 ∨ k = 4 ∨ k = 5 ∨ k = 6 ∨ k = 7 ∨ k = 8 ∨ k = 9
  · rcases h with rfl | rfl | rfl | rfl | rfl | rfl | rfl
    all_goals
      go_enter Tryz.func117, Tryz.ntmps117
      go_wp2_with fail
      go_ret3
      exact ⟨rfl, rfl⟩
  · have h3 : (k == 3) = false := by simp; omega
    have h4 : (k == 4) = false := by simp; omega
    have h5 : (k == 5) = false := by simp; omega
    have h6 : (k == 6) = false := by simp; omega
    have h7 : (k == 7) = false := by simp; omega
    have h8 : (k == 8) = false := by simp; omega
    have h9 : (k == 9) = false := by simp; omega
    have e1 : Hid (numLo k = 0) := by show _ = _; rw [numLo, if_neg (by omega), if_neg (by omega), if_neg (by omega), if_neg (by omega)]
    have e2 : Hid (numHi k = 0) := by show _ = _; rw [numHi, if_neg (by omega), if_neg (by omega), if_neg (by omega), if_neg (by omega), if_neg (by omega), if_neg (by omega), if_neg (by omega)]
    have e3 : Hid (isNum k = false) := by show _ = _; rw [isNum, inB_no]; omega
    go_enter Tryz.func117, Tryz.ntmps117
    go_wp2_with fail
    go_ret3
    exact ⟨by rw [e1.out, e2.out, e3.out]; rfl, rfl⟩
theorem implNumRange_v (k : Int) {lo hi : Int} {v : Bool} (w : World) (h1 : numLo k = lo) (h2 : numHi k = hi) (h3 : isNum k = v) : Calls Tryz.prog 117 #[.int .i64 k] w fun e w' => e = .returned (.tuple #[.int .i64 lo, .int .i64 hi, .bool v]) ∧ w = w' := by
  rw [← h1, ← h2, ← h3]
  exact implNumRange_any k w
theorem implNo_any (kind : Int) (s : ByteArray) (w : World) : Calls Tryz.prog 68 #[.int .i64 kind, .string s] w fun e w' => e = .returned (.tuple #[.agg #[.int .i64 kind, .string s], .bool true]) ∧ Below w.heap.size w w' := by
  go_enter Tryz.func68, Tryz.ntmps68
  go_wp2_with fail
  have bN : Blk (w.alloc (.cells #[.int .i64 kind, .string s] 34)) w.heap.size 34 #[.int .i64 kind, .string s] := Blk.new w _ _
  have n0 := bN.cell 0
  have n1 := bN.cell 1
  refine bodyPost_ret (v := .tuple #[.agg #[.int .i64 kind, .string s], .bool true]) (by simp [results, Tryz.results68, go_sem, n0, n1]) rfl ⟨rfl, ?_⟩
  exact (Below.refl _ _).alloc (Nat.le_refl _) _
theorem implNone_any (w : World) : Calls Tryz.prog 35 #[] w fun e w' => e = .returned (.tuple #[.agg #[.int .i64 0, .string { data := #[] }], .bool false]) ∧ Below w.heap.size w w' := by
  go_enter Tryz.func35, Tryz.ntmps35
  go_wp2_with fail
  have bN : Blk (w.alloc (.cells #[.int .i64 0, .string { data := #[] }] 34)) w.heap.size 34 #[.int .i64 0, .string { data := #[] }] := Blk.new w _ _
  have n0 := bN.cell 0
  have n1 := bN.cell 1
  refine bodyPost_ret (v := .tuple #[.agg #[.int .i64 0, .string { data := #[] }], .bool false]) (by simp [results, Tryz.results35, go_sem, n0, n1]) rfl ⟨rfl, ?_⟩
  exact (Below.refl _ _).alloc (Nat.le_refl _) _
set_option maxHeartbeats 12800000 in
theorem implTuple_any {rec : Ty → Ty → ByteArray → Why} {n M : Nat} (hM : M ≤ 1000000) (hrec : WhyC 86 rec n M) {name Zname at_ : ByteArray} {labels Zlabels : List ByteArray} {kids Zkids : List Ty} (hat : at_.size + 32 ≤ M) {B : Nat} {cs ds : List Value} {w : World} (hB : B ≤ w.heap.size) (hT : TabP w) (hx : OkT (n + 1) ⟨15, name, labels, kids⟩) (hy : OkT (n + 1) ⟨15, Zname, Zlabels, Zkids⟩) (h : RepC w B (Ty.pd ⟨15, name, labels, kids⟩) cs) (k : RepC w B (Ty.pd ⟨15, Zname, Zlabels, Zkids⟩) ds) :
    Calls Tryz.prog 118 #[.agg cs.toArray, .agg ds.toArray, .string at_] w fun e w' => WQ (tupW rec at_ kids Zkids) w e w' := by
  obtain ⟨labelsV, kidsV, rfl, r_labels, r_kids⟩ := Ty.open_ h
  obtain ⟨labelsA, labelsN, labelsC, rfl⟩ := r_labels.form
  have R_labels := Lib.hid r_labels
  clear r_labels
  obtain ⟨kidsA, kidsN, kidsC, rfl⟩ := r_kids.form
  have R_kids := Lib.hid r_kids
  clear r_kids
  obtain ⟨ZlabelsV, ZkidsV, rfl, r_Zlabels, r_Zkids⟩ := Ty.open_ k
  obtain ⟨ZlabelsA, ZlabelsN, ZlabelsC, rfl⟩ := r_Zlabels.form
  have R_Zlabels := Lib.hid r_Zlabels
  clear r_Zlabels
  obtain ⟨ZkidsA, ZkidsN, ZkidsC, rfl⟩ := r_Zkids.form
  have R_Zkids := Lib.hid r_Zkids
  clear r_Zkids
  clear h k
  have HOKx := Lib.hid (okT_kids hx)
  have HOKy := Lib.hid (okT_kids hy)
  have SX := Lib.hid (shF hx.2)
  have SY := Lib.hid (shF hy.2)
  clear hx hy
  have HREC := Lib.hid hrec
  clear hrec
  obtain ⟨R, hR⟩ : ∃ R : Why, R = tupW rec at_ kids Zkids := ⟨_, rfl⟩
  rw [← hR]
  have HR := Lib.hid hR
  clear hR
  obtain ⟨_, _, _, he, hn_kids, hm_kids, hat_kids⟩ := rep_row Ty.pd_length (by decide) R_kids.out
  injection he with e1 e2 e3
  subst e1 e2 e3
  unfold maxLen at hm_kids
  have HN_kids := Lib.hid hn_kids
  clear hn_kids
  obtain ⟨_, _, _, he, hn_Zkids, hm_Zkids, hat_Zkids⟩ := rep_row Ty.pd_length (by decide) R_Zkids.out
  injection he with e1 e2 e3
  subst e1 e2 e3
  unfold maxLen at hm_Zkids
  have HN_Zkids := Lib.hid hn_Zkids
  clear hn_Zkids
  have h6 : kidsN ≤ 6 := by have := kids_six SX.out.right; have := HN_kids.out; omega
  obtain ⟨w0, hw0, bA, bC, bR, hB0, hs0⟩ := box3 w 60 #[.int .i64 15, .string name, .slice labelsA labelsN labelsC, .slice kidsA kidsN kidsC] #[.int .i64 15, .string Zname, .slice ZlabelsA ZlabelsN ZlabelsC, .slice ZkidsA ZkidsN ZkidsC]
  have HW0 := Lib.hid hw0
  clear hw0
  by_cases hl : kidsN = ZkidsN
  case neg =>
    have HF : Hid (R = some (3, at_)) := by show _ = _; rw [HR.out, tupW, if_neg (by have := HN_kids.out; have := HN_Zkids.out; omega)]
    have hne : ((kidsN : Int) != (ZkidsN : Int)) = true := by simp; omega
    go_enter Tryz.func118, Tryz.ntmps118
    go_wp2_with fail
    try rw [← HW0.out]
    refine (implNo_any 3 at_ _).mono ?_
    rintro e wz ⟨rfl, hbz⟩
    have hBz := hB0.trans (hbz.mono (by omega))
    have bRz := bR.step hbz
    have hsz := hbz.size
    obtain ⟨r0, r1, f0, f1⟩ := zr bRz
    go_wp2_with fail
    obtain ⟨n0, n1, nB⟩ := ret3 bRz hBz (by omega) (3) (at_)
    exact bodyPost_ret (v := .tuple #[.agg #[.int .i64 3, .string at_], .bool true]) (by simp [results, Tryz.results118, go_sem, n0, n1]) rfl ⟨ret_why (by rw [HF.out]; rfl) (by rw [HF.out]; rfl) (by rw [HF.out]; rfl), nB⟩
  subst hl
  have HF0 : Hid (R = firstW (kidF rec at_ kids Zkids) kidsN) := by show _ = _; rw [HR.out, tupW, if_pos (by have := HN_kids.out; have := HN_Zkids.out; omega), ← HN_kids.out]
  go_enter Tryz.func118, Tryz.ntmps118
  go_wp2_with fail
  rw [← HW0.out]
  clear HW0
  go_loopw [25] (fun i wr => ∃ k : Nat, k ≤ kidsN ∧ i = .int .i64 k ∧ Hid (firstW (kidF rec at_ kids Zkids) k = none) ∧ Below w0.heap.size w0 wr) (fun i _ => kidsN - (intOf i).toNat)
  case atStart => exact ⟨0, Nat.zero_le _, rfl, Lib.hid rfl, Below.refl _ _⟩
  case round =>
    obtain ⟨k, hk, rfl, HP, hbr⟩ := hrel
    have hBr := hB0.trans (hbr.mono (by omega))
    have hsr := hbr.size
    have bRr := bR.step hbr
    have bAr := bA.step hbr
    have bCr := bC.step hbr
    clear bA bC bR
    have a3 : wr.cell? ⟨w.heap.size, 3, none⟩ = some (.slice kidsA kidsN kidsC) := bAr.cell 3
    have z3 : wr.cell? ⟨w.heap.size + 1, 3, none⟩ = some (.slice ZkidsA kidsN ZkidsC) := bCr.cell 3
    by_cases hlt : k < kidsN
    case neg =>
      have hkn : k = kidsN := by omega
      subst hkn
      have HF : Hid (R = none) := by show _ = _; rw [HF0.out, HP.out]
      go_wp2_with fail
      refine (implNone_any _).mono ?_
      rintro e wz ⟨rfl, hbz⟩
      have hBz := hBr.trans (hbz.mono (by omega))
      have bRz := bRr.step hbz
      have hsz := hbz.size
      obtain ⟨r0, r1, f0, f1⟩ := zr bRz
      go_wp2_with fail
      obtain ⟨n0, n1, nB⟩ := ret3 bRz hBz (by omega) (0) (⟨#[]⟩)
      exact bodyPost_ret (v := .tuple #[.agg #[.int .i64 0, .string { data := #[] }], .bool false]) (by simp [results, Tryz.results118, go_sem, n0, n1]) rfl ⟨ret_why (by rw [HF.out]; rfl) (by rw [HF.out]; rfl) (by rw [HF.out]; rfl), nB⟩
    have hlti : (k : Int) < (kidsN : Int) := by omega
    have hk0 : (0 : Int) ≤ (k : Int) := by omega
    have hk62 : (k : Int) + 1 ≤ 7 := by omega
    obtain ⟨g, off, rfl, hg_kids, hcell_kids⟩ := hat_kids (by omega)
    obtain ⟨x, hx_x, hmem_x⟩ := at_lt HN_kids.out hlt
    obtain ⟨x_kind, x_name, x_labels, x_kids⟩ := x
    obtain ⟨x_labelsV, x_kidsV, c_x_kind, c_x_name, c_x_labels, c_x_kids, R_x_labels, R_x_kids⟩ := tyAt (k := k) (a0 := off + k * 4) (a1 := off + k * 4 + 1) (a2 := off + k * 4 + 2) (a3 := off + k * 4 + 3) (hBr.mono (Nat.le_refl _)) hg_kids hB hcell_kids hx_x ⟨rfl, rfl, rfl, rfl⟩
    replace R_x_labels := Lib.hid R_x_labels
    replace R_x_kids := Lib.hid R_x_kids
    have HX_x := Lib.hid hx_x
    have HM_x := Lib.hid hmem_x
    clear hx_x hmem_x
    obtain ⟨g2, off2, rfl, hg_Zkids, hcell_Zkids⟩ := hat_Zkids (by omega)
    obtain ⟨y, hx_y, hmem_y⟩ := at_lt HN_Zkids.out hlt
    obtain ⟨y_kind, y_name, y_labels, y_kids⟩ := y
    obtain ⟨y_labelsV, y_kidsV, c_y_kind, c_y_name, c_y_labels, c_y_kids, R_y_labels, R_y_kids⟩ := tyAt (k := k) (a0 := off2 + k * 4) (a1 := off2 + k * 4 + 1) (a2 := off2 + k * 4 + 2) (a3 := off2 + k * 4 + 3) (hBr.mono (Nat.le_refl _)) hg_Zkids hB hcell_Zkids hx_y ⟨rfl, rfl, rfl, rfl⟩
    replace R_y_labels := Lib.hid R_y_labels
    replace R_y_kids := Lib.hid R_y_kids
    have HX_y := Lib.hid hx_y
    have HM_y := Lib.hid hmem_y
    clear hx_y hmem_y
    have DG := Lib.hid (fun W (h : TabP W) => decimal_any (k : Int) (WalkArith.wf_i64 (by omega)) W h)
    have l_d : (itoaB (k : Int)).size ≤ 21 := itoaB_size (by omega) (by omega)
    obtain ⟨d, hd⟩ : ∃ z, itoaB (k : Int) = z := ⟨_, rfl⟩
    rw [hd] at DG l_d
    have HD := Lib.hid hd
    clear hd
    have y_p1 : (9223372036854775807 < at_.size + (⟨#[46]⟩ : ByteArray).size) = False := eq_false (by have z_ : (⟨#[46]⟩ : ByteArray).size = 1 := rfl; omega)
    have x_p1 : (9223372036854775807 < at_.size + 1) = False := eq_false (by omega)
    obtain ⟨p1, e_p1⟩ : ∃ p, at_ ++ (⟨#[46]⟩ : ByteArray) = p := ⟨_, rfl⟩
    have l_p1 : p1.size ≤ at_.size + 1 := by rw [← e_p1, ByteArray.size_append]; have z_ : (⟨#[46]⟩ : ByteArray).size = 1 := rfl; omega
    have y_p2 : (9223372036854775807 < p1.size + d.size) = False := eq_false (by omega)
    obtain ⟨p2, e_p2⟩ : ∃ p, p1 ++ d = p := ⟨_, rfl⟩
    have l_p2 : p2.size ≤ at_.size + 22 := by rw [← e_p2, ByteArray.size_append]; omega
    obtain ⟨R2, hR2⟩ : ∃ r, rec ⟨x_kind, x_name, x_labels, x_kids⟩ ⟨y_kind, y_name, y_labels, y_kids⟩ p2 = r := ⟨_, rfl⟩
    have HC := fun (V : World) (hV : Keep (w.heap.size + 1 + 1) (w.heap.size + 1 + 1 + 1) wr V) => HREC.out ⟨x_kind, x_name, x_labels, x_kids⟩ ⟨y_kind, y_name, y_labels, y_kids⟩ p2 B [.int .i64 x_kind, .string x_name, x_labelsV, x_kidsV] [.int .i64 y_kind, .string y_name, y_labelsV, y_kidsV] V (Nat.le_trans (Nat.le_trans hB hBr.size) hV.size) (hT.below (hBr.trans (kb hV (by omega)))) (HOKx.out _ HM_x.out) (HOKy.out _ HM_y.out) (by omega) ((Ty.close_ R_x_labels.out R_x_kids.out).below (kb hV (by omega))) ((Ty.close_ R_y_labels.out R_y_kids.out).below (kb hV (by omega)))
    unfold WQ at HC
    rw [hR2] at HC
    obtain ⟨RK, RS, RN, HRK, HRS, HRN⟩ := why3 R2
    rw [HRK.out, HRS.out, HRN.out] at HC
    replace HC := Lib.hid HC
    have HR2 := Lib.hid hR2
    clear hR2
    have HK2 : Hid (kidF rec at_ kids Zkids k = R2) := by show _ = _; rw [kidF_at HX_x.out HX_y.out, HD.out, ← HR2.out, ← e_p2, ← e_p1]; rfl
    have HS : Hid (∀ V, Keep (w.heap.size + 1 + 1) (w.heap.size + 1 + 1 + 1) wr V → V.cell? ⟨w.heap.size, 3, none⟩ = some (.slice (some ⟨g, off, none⟩) kidsN kidsC) ∧ V.cell? ⟨w.heap.size + 1, 3, none⟩ = some (.slice (some ⟨g2, off2, none⟩) kidsN ZkidsC) ∧ V.cell? ⟨g, off + k * 4, none⟩ = some (.int .i64 x_kind) ∧ V.cell? ⟨g, off + k * 4 + 1, none⟩ = some (.string x_name) ∧ V.cell? ⟨g, off + k * 4 + 2, none⟩ = some (x_labelsV) ∧ V.cell? ⟨g, off + k * 4 + 3, none⟩ = some (x_kidsV) ∧ V.cell? ⟨g2, off2 + k * 4, none⟩ = some (.int .i64 y_kind) ∧ V.cell? ⟨g2, off2 + k * 4 + 1, none⟩ = some (.string y_name) ∧ V.cell? ⟨g2, off2 + k * 4 + 2, none⟩ = some (y_labelsV) ∧ V.cell? ⟨g2, off2 + k * 4 + 3, none⟩ = some (y_kidsV)) := Lib.hid fun V hV => ⟨(hV.cell (p := ⟨w.heap.size, 3, none⟩) (by simp only; omega) (by simp only; omega)).trans a3, (hV.cell (p := ⟨w.heap.size + 1, 3, none⟩) (by simp only; omega) (by simp only; omega)).trans z3, (hV.cell (p := ⟨g, off + k * 4, none⟩) (by simp only; omega) (by simp only; omega)).trans c_x_kind, (hV.cell (p := ⟨g, off + k * 4 + 1, none⟩) (by simp only; omega) (by simp only; omega)).trans c_x_name, (hV.cell (p := ⟨g, off + k * 4 + 2, none⟩) (by simp only; omega) (by simp only; omega)).trans c_x_labels, (hV.cell (p := ⟨g, off + k * 4 + 3, none⟩) (by simp only; omega) (by simp only; omega)).trans c_x_kids, (hV.cell (p := ⟨g2, off2 + k * 4, none⟩) (by simp only; omega) (by simp only; omega)).trans c_y_kind, (hV.cell (p := ⟨g2, off2 + k * 4 + 1, none⟩) (by simp only; omega) (by simp only; omega)).trans c_y_name, (hV.cell (p := ⟨g2, off2 + k * 4 + 2, none⟩) (by simp only; omega) (by simp only; omega)).trans c_y_labels, (hV.cell (p := ⟨g2, off2 + k * 4 + 3, none⟩) (by simp only; omega) (by simp only; omega)).trans c_y_kids⟩
    clear bAr bCr
    go_wp2_with fail
    go_region_held3 (fun w' => w'.cell? ⟨w.heap.size, 3, none⟩ = some (.slice (some ⟨g, off, none⟩) kidsN kidsC) ∧ w'.cell? ⟨w.heap.size + 1, 3, none⟩ = some (.slice (some ⟨g2, off2, none⟩) kidsN ZkidsC) ∧ w'.cell? ⟨g, off + k * 4, none⟩ = some (.int .i64 x_kind) ∧ w'.cell? ⟨g, off + k * 4 + 1, none⟩ = some (.string x_name) ∧ w'.cell? ⟨g, off + k * 4 + 2, none⟩ = some (x_labelsV) ∧ w'.cell? ⟨g, off + k * 4 + 3, none⟩ = some (x_kidsV) ∧ w'.cell? ⟨g2, off2 + k * 4, none⟩ = some (.int .i64 y_kind) ∧ w'.cell? ⟨g2, off2 + k * 4 + 1, none⟩ = some (.string y_name) ∧ w'.cell? ⟨g2, off2 + k * 4 + 2, none⟩ = some (y_labelsV) ∧ w'.cell? ⟨g2, off2 + k * 4 + 3, none⟩ = some (y_kidsV))
      (first | exact HS.out _ (by repeat (first | exact hq1 | exact hq2 | exact Keep.refl _ _ _ | refine Keep.drew ?_ | refine Keep.alloc ?_ _ | refine Keep.setAt ?_ _ _ | refine Keep.newAt ?_ (Nat.le_refl _) _ _ | refine Keep.newAt ?_ hbWd.size _ _ | refine Keep.newAt ?_ hbW.size _ _)))
      (first | (go_at_call 146; refine (DG.out _ (hT.below (hBr.trans (kb (w := wr) (lo := w.heap.size + 1 + 1) (hi := w.heap.size + 1 + 1 + 1) (by repeat (first | exact hq1 | exact hq2 | exact Keep.refl _ _ _ | refine Keep.drew ?_ | refine Keep.alloc ?_ _ | refine Keep.setAt ?_ _ _ | refine Keep.newAt ?_ (Nat.le_refl _) _ _ | refine Keep.newAt ?_ hbWd.size _ _ | refine Keep.newAt ?_ hbW.size _ _)) (by omega))))).mono ?_; rintro e wd ⟨rfl, hbd⟩; have hbWd : Below wr.heap.size wr wd := (by first | exact (Below.refl _ _).drew.trans hbd | exact ((Below.refl _ _).drew.alloc (Nat.le_refl _) _).trans (hbd.mono (by simp))); have hq1 : Keep (w.heap.size + 1 + 1) (w.heap.size + 1 + 1 + 1) wr wd := Keep.of_below hbWd; (first | (have bP0 : Blk wd wr.heap.size 34 #[.int .i64 0, .string { data := #[] }] := (Blk.new wr.drew _ _).step hbd) | skip)) | (go_at_call 86; refine (HC.out _ (by repeat (first | exact hq1 | exact hq2 | exact Keep.refl _ _ _ | refine Keep.drew ?_ | refine Keep.alloc ?_ _ | refine Keep.setAt ?_ _ _ | refine Keep.newAt ?_ (Nat.le_refl _) _ _ | refine Keep.newAt ?_ hbWd.size _ _ | refine Keep.newAt ?_ hbW.size _ _))).mono ?_; rintro e wq ⟨rfl, hbq⟩; have hbW : Below wr.heap.size wr wq := (by first | exact hbWd.trans (hbq.mono hbWd.size) | exact (hbWd.alloc hbWd.size _).trans (hbq.mono (by simp; have := hbWd.size; omega))); have hq2 : Keep (w.heap.size + 1 + 1) (w.heap.size + 1 + 1 + 1) wr wq := Keep.of_below hbW; (first | (have bP : Blk wq wr.heap.size 34 #[.int .i64 0, .string { data := #[] }] := bP0.step hbq; have p0 : wq.cell? ⟨wr.heap.size, 0, none⟩ = some (.int .i64 0) := bP.cell 0; have p1 : wq.cell? ⟨wr.heap.size, 1, none⟩ = some (.string { data := #[] }) := bP.cell 1; have g0 : wq.frozen? ⟨wr.heap.size, 0, none⟩ = false := bP.frozen 0; have g1 : wq.frozen? ⟨wr.heap.size, 1, none⟩ = false := bP.frozen 1) | (have bP : Blk wq wd.heap.size 34 #[.int .i64 0, .string { data := #[] }] := (Blk.new wd _ _).step hbq; have p0 : wq.cell? ⟨wd.heap.size, 0, none⟩ = some (.int .i64 0) := bP.cell 0; have p1 : wq.cell? ⟨wd.heap.size, 1, none⟩ = some (.string { data := #[] }) := bP.cell 1; have g0 : wq.frozen? ⟨wd.heap.size, 0, none⟩ = false := bP.frozen 0; have g1 : wq.frozen? ⟨wd.heap.size, 1, none⟩ = false := bP.frozen 1) | skip)))
    all_goals
      first
        | (obtain ⟨w6, hw6⟩ : ∃ V, V = wq.alloc (.cells #[.int .i64 RK, .string RS] 34) := ⟨_, rfl⟩; rw [← hw6]; have bX : Blk w6 wq.heap.size 34 #[.int .i64 RK, .string RS] := (by rw [hw6]; exact Blk.new wq _ _); have hb6 : Below wr.heap.size wr w6 := (by rw [hw6]; exact hbW.alloc hbW.size _); obtain ⟨rx, hrx⟩ : ∃ r, r = wq.heap.size := ⟨_, rfl⟩; have hle6 : wr.heap.size ≤ rx := (by rw [hrx]; exact hbW.size); rw [← hrx] at bX ⊢; clear hw6 hrx)
        | (obtain ⟨w6, hw6⟩ : ∃ V, V = (wq.setCell ⟨wr.heap.size, 0, none⟩ (.int .i64 RK)).setCell ⟨wr.heap.size, 1, none⟩ (.string RS) := ⟨_, rfl⟩; rw [← hw6]; have bX : Blk w6 (wr.heap.size) 34 #[.int .i64 RK, .string RS] := (by rw [hw6]; have := (bP.set_ 0 (.int .i64 RK)).set_ 1 (.string RS); simpa using this); have hb6 : Below wr.heap.size wr w6 := (by rw [hw6]; exact (hbW.setCell (p := ⟨wr.heap.size, 0, none⟩) (by first | exact Nat.le_refl _ | exact hbWd.size | exact hbW.size) _).setCell (p := ⟨wr.heap.size, 1, none⟩) (by first | exact Nat.le_refl _ | exact hbWd.size | exact hbW.size) _); obtain ⟨rx, hrx⟩ : ∃ r, r = wr.heap.size := ⟨_, rfl⟩; have hle6 : wr.heap.size ≤ rx := (by rw [hrx]; first | exact Nat.le_refl _ | exact hbW.size | exact hbWd.size); rw [← hrx] at bX ⊢; clear hw6 hrx)
        | (obtain ⟨w6, hw6⟩ : ∃ V, V = (wq.setCell ⟨wd.heap.size, 0, none⟩ (.int .i64 RK)).setCell ⟨wd.heap.size, 1, none⟩ (.string RS) := ⟨_, rfl⟩; rw [← hw6]; have bX : Blk w6 (wd.heap.size) 34 #[.int .i64 RK, .string RS] := (by rw [hw6]; have := (bP.set_ 0 (.int .i64 RK)).set_ 1 (.string RS); simpa using this); have hb6 : Below wr.heap.size wr w6 := (by rw [hw6]; exact (hbW.setCell (p := ⟨wd.heap.size, 0, none⟩) (by first | exact Nat.le_refl _ | exact hbWd.size | exact hbW.size) _).setCell (p := ⟨wd.heap.size, 1, none⟩) (by first | exact Nat.le_refl _ | exact hbWd.size | exact hbW.size) _); obtain ⟨rx, hrx⟩ : ∃ r, r = wd.heap.size := ⟨_, rfl⟩; have hle6 : wr.heap.size ≤ rx := (by rw [hrx]; first | exact Nat.le_refl _ | exact hbW.size | exact hbWd.size); rw [← hrx] at bX ⊢; clear hw6 hrx)
      have hB6 := hBr.trans (hb6.mono (by omega))
      have bR6 := bRr.step hb6
      have hs6 := hb6.size
      cases RN
      case false =>
        have HQ : Hid (firstW (kidF rec at_ kids Zkids) (k + 1) = none) := by show _ = _; exact firstW_next HP.out (by rw [HK2.out]; exact why_none HRN.out)
        go_wp2_with fail
        go_roundw
        case rel => exact ⟨k + 1, by omega, by go_num, HQ, hbr.trans (hb6.mono hsr)⟩
        case measure => simp [intOf]; omega
      case true =>
        have HF : Hid (R = some (RK, RS)) := by show _ = _; rw [HF0.out, ← HRK.out, ← HRS.out]; exact firstW_hit HP.out (by rw [HK2.out]; exact why_some HRN.out) _ hlt
        obtain ⟨q0, q1⟩ := rq bX
        obtain ⟨r0, r1, f0, f1⟩ := zr bR6
        go_wp2_with fail
        obtain ⟨n0, n1, nB⟩ := ret3 bR6 hB6 (by omega) (RK) (RS)
        exact bodyPost_ret (v := .tuple #[.agg #[.int .i64 RK, .string RS], .bool true]) (by simp [results, Tryz.results118, go_sem, n0, n1]) rfl ⟨ret_why (by rw [HF.out]; rfl) (by rw [HF.out]; rfl) (by rw [HF.out]; rfl), nB⟩
theorem whyNot1_enter (a : Array Value) (W : World) : Sem.run Tryz.prog (callFunc 120 a) W = .ok (.enter 120 a) W := by kernel_rfl
theorem whyNot_enter (a : Array Value) (W : World) : Sem.run Tryz.prog (callFunc 86 a) W = .ok (.enter 86 a) W := by kernel_rfl
set_option maxHeartbeats 3200000 in
theorem whyNot1_C {rec : Ty → Ty → ByteArray → Why} {n M : Nat} (hrec : WhyC 86 rec n M) : WhyC 120 (fun x y => rec y x) n M := by
  intro x y at_ B cs ds w hB hT hx hy hat h k
  have HREC := Lib.hid hrec
  have HHX := Lib.hid hx
  have HHY := Lib.hid hy
  clear hrec
  obtain ⟨kind, name, labels, kids⟩ := x
  obtain ⟨labelsV, kidsV, rfl, r_labels, r_kids⟩ := Ty.open_ h
  obtain ⟨labelsA, labelsN, labelsC, rfl⟩ := r_labels.form
  have R_labels := Lib.hid r_labels
  clear r_labels
  obtain ⟨kidsA, kidsN, kidsC, rfl⟩ := r_kids.form
  have R_kids := Lib.hid r_kids
  clear r_kids
  obtain ⟨Zkind, Zname, Zlabels, Zkids⟩ := y
  obtain ⟨ZlabelsV, ZkidsV, rfl, r_Zlabels, r_Zkids⟩ := Ty.open_ k
  obtain ⟨ZlabelsA, ZlabelsN, ZlabelsC, rfl⟩ := r_Zlabels.form
  have R_Zlabels := Lib.hid r_Zlabels
  clear r_Zlabels
  obtain ⟨ZkidsA, ZkidsN, ZkidsC, rfl⟩ := r_Zkids.form
  have R_Zkids := Lib.hid r_Zkids
  clear r_Zkids
  clear h k
  clear hx hy
  obtain ⟨w0, hw0, bA, bC, bR, hB0, hs0⟩ := box3 w 60 #[.int .i64 kind, .string name, .slice labelsA labelsN labelsC, .slice kidsA kidsN kidsC] #[.int .i64 Zkind, .string Zname, .slice ZlabelsA ZlabelsN ZlabelsC, .slice ZkidsA ZkidsN ZkidsC]
  have HW0 := Lib.hid hw0
  clear hw0
  go_enter Tryz.func120, Tryz.ntmps120
  go_wp2_with fail
  try rw [← HW0.out]
  obtain ⟨R2, hR2⟩ : ∃ r, rec ⟨Zkind, Zname, Zlabels, Zkids⟩ ⟨kind, name, labels, kids⟩ at_ = r := ⟨_, rfl⟩
  have HCW := HREC.out ⟨Zkind, Zname, Zlabels, Zkids⟩ ⟨kind, name, labels, kids⟩ at_ B [.int .i64 Zkind, .string Zname, .slice ZlabelsA ZlabelsN ZlabelsC, .slice ZkidsA ZkidsN ZkidsC] [.int .i64 kind, .string name, .slice labelsA labelsN labelsC, .slice kidsA kidsN kidsC] w0 (Nat.le_trans hB hB0.size) (hT.below hB0) HHY.out HHX.out hat (Ty.close_ (R_Zlabels.out.below (hB0.mono hB)) (R_Zkids.out.below (hB0.mono hB))) (Ty.close_ (R_labels.out.below (hB0.mono hB)) (R_kids.out.below (hB0.mono hB)))
  unfold WQ at HCW
  rw [hR2] at HCW
  have HR2 := Lib.hid hR2
  obtain ⟨RK, RS, RN, HRK, HRS, HRN⟩ := why3 R2
  rw [HRK.out, HRS.out, HRN.out] at HCW
  clear hR2
  refine HCW.mono ?_
  rintro e wq ⟨rfl, hbq⟩
  have hBq := hB0.trans (hbq.mono (by omega))
  have hsq := hbq.size
  have bRq := bR.step hbq
  clear HCW
  obtain ⟨r0, r1, f0, f1⟩ := zr bRq
  go_wp2_with fail
  obtain ⟨n0, n1, nB⟩ := ret3 bRq hBq (by omega) (RK) (RS)
  exact bodyPost_ret (v := .tuple #[.agg #[.int .i64 RK, .string RS], .bool RN]) (by simp [results, Tryz.results120, go_sem, n0, n1]) rfl ⟨ret_why (by rw [← HRK.out, ← HR2.out]) (by rw [← HRS.out, ← HR2.out]) (by rw [← HRN.out, ← HR2.out]), nB⟩
set_option maxHeartbeats 12800000 in
theorem implLabW_any (fid : Nat) {rec : Ty → Ty → ByteArray → Why} {n M : Nat} (hM : M ≤ 1000000) (hrec : WhyC fid rec n M) (hcf : ∀ a W, Sem.run Tryz.prog (callFunc fid a) W = .ok (.enter fid a) W) {ck Zck kind : Int} {name Zname at_ : ByteArray} {labels Zlabels : List ByteArray} {kids Zkids : List Ty} (hat : at_.size + 32 ≤ M) {B : Nat} {cs ds : List Value} {w : World} (hB : B ≤ w.heap.size) (hT : TabP w) (hlab : labels.length ≤ 16 ∧ ∀ l ∈ labels, l.size ≤ 12) (hkids : kids.length = 0 ∨ (kids.length = labels.length ∧ Zkids.length = Zlabels.length)) (hx : OkT (n + 1) ⟨ck, name, labels, kids⟩) (hy : OkT (n + 1) ⟨Zck, Zname, Zlabels, Zkids⟩) (h : RepC w B (Ty.pd ⟨ck, name, labels, kids⟩) cs) (k : RepC w B (Ty.pd ⟨Zck, Zname, Zlabels, Zkids⟩) ds) :
    Calls Tryz.prog 119 #[.agg cs.toArray, .agg ds.toArray, .string at_, .int .i64 kind, .func (.func fid) #[] #[]] w fun e w' => WQ (labW rec kind at_ labels kids Zlabels Zkids) w e w' := by
  obtain ⟨labelsV, kidsV, rfl, r_labels, r_kids⟩ := Ty.open_ h
  obtain ⟨labelsA, labelsN, labelsC, rfl⟩ := r_labels.form
  have R_labels := Lib.hid r_labels
  clear r_labels
  obtain ⟨kidsA, kidsN, kidsC, rfl⟩ := r_kids.form
  have R_kids := Lib.hid r_kids
  clear r_kids
  obtain ⟨ZlabelsV, ZkidsV, rfl, r_Zlabels, r_Zkids⟩ := Ty.open_ k
  obtain ⟨ZlabelsA, ZlabelsN, ZlabelsC, rfl⟩ := r_Zlabels.form
  have R_Zlabels := Lib.hid r_Zlabels
  clear r_Zlabels
  obtain ⟨ZkidsA, ZkidsN, ZkidsC, rfl⟩ := r_Zkids.form
  have R_Zkids := Lib.hid r_Zkids
  clear r_Zkids
  clear h k
  have HOKx := Lib.hid (okT_kids hx)
  have HOKy := Lib.hid (okT_kids hy)
  clear hx hy
  have HREC := Lib.hid hrec
  clear hrec
  obtain ⟨R, hR⟩ : ∃ R : Why, R = labW rec kind at_ labels kids Zlabels Zkids := ⟨_, rfl⟩
  rw [← hR]
  have HR := Lib.hid hR
  clear hR
  obtain ⟨_, _, _, he, hn_labels, hm_labels, hat_labels⟩ := rep_row strC_length (by decide) R_labels.out
  injection he with e1 e2 e3
  subst e1 e2 e3
  unfold maxLen at hm_labels
  have HN_labels := Lib.hid hn_labels
  clear hn_labels
  obtain ⟨_, _, _, he, hn_Zlabels, hm_Zlabels, hat_Zlabels⟩ := rep_row strC_length (by decide) R_Zlabels.out
  injection he with e1 e2 e3
  subst e1 e2 e3
  unfold maxLen at hm_Zlabels
  have HN_Zlabels := Lib.hid hn_Zlabels
  clear hn_Zlabels
  obtain ⟨_, _, _, he, hn_kids, hm_kids, hat_kids⟩ := rep_row Ty.pd_length (by decide) R_kids.out
  injection he with e1 e2 e3
  subst e1 e2 e3
  unfold maxLen at hm_kids
  have HN_kids := Lib.hid hn_kids
  clear hn_kids
  obtain ⟨_, _, _, he, hn_Zkids, hm_Zkids, hat_Zkids⟩ := rep_row Ty.pd_length (by decide) R_Zkids.out
  injection he with e1 e2 e3
  subst e1 e2 e3
  unfold maxLen at hm_Zkids
  have HN_Zkids := Lib.hid hn_Zkids
  clear hn_Zkids
  have SI := Lib.hid hlab
  have h16 : labelsN ≤ 16 := by have := SI.out.1; have := HN_labels.out; omega
  have HKK : Hid (kidsN = 0 ∨ (kidsN = labelsN ∧ ZkidsN = ZlabelsN)) := by show _ ∨ _; rw [HN_kids.out, HN_labels.out, HN_Zkids.out, HN_Zlabels.out]; exact hkids
  clear hlab hkids
  obtain ⟨w0, hw0, bA, bC, bR, hB0, hs0⟩ := box3 w 60 #[.int .i64 ck, .string name, .slice labelsA labelsN labelsC, .slice kidsA kidsN kidsC] #[.int .i64 Zck, .string Zname, .slice ZlabelsA ZlabelsN ZlabelsC, .slice ZkidsA ZkidsN ZkidsC]
  have HW0 := Lib.hid hw0
  clear hw0
  have HF0 : Hid (R = firstW (labF rec kind at_ labels kids Zlabels Zkids) labelsN) := by show _ = _; rw [HR.out, labW, ← HN_labels.out]
  go_enter Tryz.func119, Tryz.ntmps119
  go_wp2_with fail
  rw [← HW0.out]
  clear HW0
  go_loopw [20] (fun i wr => ∃ k : Nat, k ≤ labelsN ∧ i = .int .i64 k ∧ Hid (firstW (labF rec kind at_ labels kids Zlabels Zkids) k = none) ∧ Below w0.heap.size w0 wr) (fun i _ => labelsN - (intOf i).toNat)
  case atStart => exact ⟨0, Nat.zero_le _, rfl, Lib.hid rfl, Below.refl _ _⟩
  case round =>
    obtain ⟨k, hk, rfl, HP, hbr⟩ := hrel
    have hBr := hB0.trans (hbr.mono (by omega))
    have hsr := hbr.size
    have bRr := bR.step hbr
    have bAr := bA.step hbr
    have bCr := bC.step hbr
    clear bA bC bR
    have o2 : wr.cell? ⟨w.heap.size + 1, 2, none⟩ = some (.slice ZlabelsA ZlabelsN ZlabelsC) := bCr.cell 2
    by_cases hlt : k < labelsN
    case neg =>
      have hkn : k = labelsN := by omega
      subst hkn
      have HF : Hid (R = none) := by show _ = _; rw [HF0.out, HP.out]
      go_wp2_with fail
      refine (implNone_any _).mono ?_
      rintro e wz ⟨rfl, hbz⟩
      have hBz := hBr.trans (hbz.mono (by omega))
      have bRz := bRr.step hbz
      have hsz := hbz.size
      obtain ⟨r0, r1, f0, f1⟩ := zr bRz
      go_wp2_with fail
      obtain ⟨n0, n1, nB⟩ := ret3 bRz hBz (by omega) (0) (⟨#[]⟩)
      exact bodyPost_ret (v := .tuple #[.agg #[.int .i64 0, .string { data := #[] }], .bool false]) (by simp [results, Tryz.results119, go_sem, n0, n1]) rfl ⟨ret_why (by rw [HF.out]; rfl) (by rw [HF.out]; rfl) (by rw [HF.out]; rfl), nB⟩
    have hlti : (k : Int) < (labelsN : Int) := by omega
    have hk0 : (0 : Int) ≤ (k : Int) := by omega
    obtain ⟨gl, offl, rfl, hg_labels, hcell_labels⟩ := hat_labels (by omega)
    obtain ⟨l, hx_l, hmem_l⟩ := at_lt HN_labels.out hlt
    have cl : wr.cell? ⟨gl, offl + k, none⟩ = some (.string l) := cell_lit hBr (by omega) (by have := hcell_labels k 0 _ _ hx_l rfl; simpa using this)
    have HX_l := Lib.hid hx_l
    have HM_l := Lib.hid hmem_l
    clear hx_l hmem_l
    have l_l : l.size ≤ 12 := SI.out.2 l HM_l.out
    have y_p1 : (9223372036854775807 < at_.size + (⟨#[46]⟩ : ByteArray).size) = False := eq_false (by have z_ : (⟨#[46]⟩ : ByteArray).size = 1 := rfl; omega)
    have x_p1 : (9223372036854775807 < at_.size + 1) = False := eq_false (by omega)
    obtain ⟨p1, e_p1⟩ : ∃ p, at_ ++ (⟨#[46]⟩ : ByteArray) = p := ⟨_, rfl⟩
    have l_p1 : p1.size ≤ at_.size + 1 := by rw [← e_p1, ByteArray.size_append]; have z_ : (⟨#[46]⟩ : ByteArray).size = 1 := rfl; omega
    have y_p2 : (9223372036854775807 < p1.size + l.size) = False := eq_false (by omega)
    obtain ⟨p2, e_p2⟩ : ∃ p, p1 ++ l = p := ⟨_, rfl⟩
    have l_p2 : p2.size ≤ at_.size + 13 := by rw [← e_p2, ByteArray.size_append]; omega
    have HP2 : Hid (dotL at_ l = p2) := by show _ = _; rw [← e_p2, ← e_p1]; rfl
    have LB := Lib.hid (indexStringS_any l (B := B) (w := wr) (ts := Zlabels) (Nat.le_trans hB hBr.size) (R_Zlabels.out.below (hBr.mono hB)))
    have ge := idx_get (t := l) (ls := Zlabels)
    obtain ⟨ix, hix⟩ : ∃ i, idxP (strEq l) Zlabels = i := ⟨_, rfl⟩
    rw [show idxP (fun t => decide (l = t)) Zlabels = ix from hix] at LB
    rw [hix] at ge
    have GE := Lib.hid ge
    have HIX := Lib.hid hix
    have hlo := idxP_lo (strEq l) Zlabels
    rw [hix] at hlo
    clear hix ge
    go_wp2_with fail
    refine LB.out.mono ?_
    rintro e w1 ⟨rfl, hb1⟩
    clear o2 LB cl
    have hB1 := hBr.trans (hb1.mono (by omega))
    have hbr1 := hbr.trans (hb1.mono hsr)
    have hs1 := hb1.size
    have bA1 := bAr.step hb1
    have bC1 := bCr.step hb1
    have bR1 := bRr.step hb1
    clear bAr bCr bRr
    by_cases hneg : ix < 0
    case pos =>
      have HF : Hid (R = some (kind, p2)) := by show _ = _; rw [HF0.out, ← HP2.out]; exact firstW_hit HP.out (labF_lack HX_l.out (by rw [HIX.out]; exact hneg)) _ hlt
      go_wp2_with fail
      refine (implNo_any kind p2 _).mono ?_
      rintro e wz ⟨rfl, hbz⟩
      have hBz := hB1.trans (hbz.mono (by omega))
      have bRz := bR1.step hbz
      have hsz := hbz.size
      obtain ⟨r0, r1, f0, f1⟩ := zr bRz
      go_wp2_with fail
      obtain ⟨n0, n1, nB⟩ := ret3 bRz hBz (by omega) (kind) (p2)
      exact bodyPost_ret (v := .tuple #[.agg #[.int .i64 kind, .string p2], .bool true]) (by simp [results, Tryz.results119, go_sem, n0, n1]) rfl ⟨ret_why (by rw [HF.out]; rfl) (by rw [HF.out]; rfl) (by rw [HF.out]; rfl), nB⟩
    have a3 : w1.cell? ⟨w.heap.size, 3, none⟩ = some (.slice kidsA kidsN kidsC) := bA1.cell 3
    by_cases hz : kidsN = 0
    case pos =>
      have HQ : Hid (firstW (labF rec kind at_ labels kids Zlabels Zkids) (k + 1) = none) := by show _ = _; exact firstW_next HP.out (labF_bare HX_l.out (by rw [HIX.out]; exact hneg) (by have := HN_kids.out; omega))
      have hzb : ((kidsN : Int) == 0) = true := by simp; omega
      clear hz
      go_wp2_with fail
      go_roundw
      case rel => exact ⟨k + 1, by omega, by go_num, HQ, hbr1⟩
      case measure => simp [intOf]; omega
    have hzb : ((kidsN : Int) == 0) = false := by simp; omega
    obtain ⟨j, hj, hjl⟩ := GE.out (by omega)
    have hlo' : j < ZkidsN := by have := HN_Zlabels.out; rcases HKK.out with h | h <;> omega
    subst hj
    have hjI : (j : Int) < (ZkidsN : Int) := by omega
    have hj0 : (0 : Int) ≤ (j : Int) := by omega
    have hltk : k < kidsN := by rcases HKK.out with h | h <;> omega
    have hltkI : (k : Int) < (kidsN : Int) := by omega
    have z3 : w1.cell? ⟨w.heap.size + 1, 3, none⟩ = some (.slice ZkidsA ZkidsN ZkidsC) := bC1.cell 3
    obtain ⟨g, off, rfl, hg_kids, hcell_kids⟩ := hat_kids (by omega)
    obtain ⟨x, hx_x, hmem_x⟩ := at_lt HN_kids.out hltk
    obtain ⟨x_kind, x_name, x_labels, x_kids⟩ := x
    obtain ⟨x_labelsV, x_kidsV, c_x_kind, c_x_name, c_x_labels, c_x_kids, R_x_labels, R_x_kids⟩ := tyAt (k := k) (a0 := off + k * 4) (a1 := off + k * 4 + 1) (a2 := off + k * 4 + 2) (a3 := off + k * 4 + 3) (hB1.mono (Nat.le_refl _)) hg_kids hB hcell_kids hx_x ⟨rfl, rfl, rfl, rfl⟩
    replace R_x_labels := Lib.hid R_x_labels
    replace R_x_kids := Lib.hid R_x_kids
    have HX_x := Lib.hid hx_x
    have HM_x := Lib.hid hmem_x
    clear hx_x hmem_x
    obtain ⟨g2, off2, rfl, hg_Zkids, hcell_Zkids⟩ := hat_Zkids (by omega)
    obtain ⟨y, hx_y, hmem_y⟩ := at_lt HN_Zkids.out hlo'
    obtain ⟨y_kind, y_name, y_labels, y_kids⟩ := y
    obtain ⟨y_labelsV, y_kidsV, c_y_kind, c_y_name, c_y_labels, c_y_kids, R_y_labels, R_y_kids⟩ := tyAt (k := j) (a0 := off2 + j * 4) (a1 := off2 + j * 4 + 1) (a2 := off2 + j * 4 + 2) (a3 := off2 + j * 4 + 3) (hB1.mono (Nat.le_refl _)) hg_Zkids hB hcell_Zkids hx_y ⟨rfl, rfl, rfl, rfl⟩
    replace R_y_labels := Lib.hid R_y_labels
    replace R_y_kids := Lib.hid R_y_kids
    have HX_y := Lib.hid hx_y
    have HM_y := Lib.hid hmem_y
    clear hx_y hmem_y
    obtain ⟨R2, hR2⟩ : ∃ r, rec ⟨x_kind, x_name, x_labels, x_kids⟩ ⟨y_kind, y_name, y_labels, y_kids⟩ p2 = r := ⟨_, rfl⟩
    have HC := fun (V : World) (hV : Keep (w.heap.size + 1 + 1) (w.heap.size + 1 + 1 + 1) w1 V) => HREC.out ⟨x_kind, x_name, x_labels, x_kids⟩ ⟨y_kind, y_name, y_labels, y_kids⟩ p2 B [.int .i64 x_kind, .string x_name, x_labelsV, x_kidsV] [.int .i64 y_kind, .string y_name, y_labelsV, y_kidsV] V (Nat.le_trans (Nat.le_trans hB hB1.size) hV.size) (hT.below (hB1.trans (kb hV (by omega)))) (HOKx.out _ HM_x.out) (HOKy.out _ HM_y.out) (by omega) ((Ty.close_ R_x_labels.out R_x_kids.out).below (kb hV (by omega))) ((Ty.close_ R_y_labels.out R_y_kids.out).below (kb hV (by omega)))
    unfold WQ at HC
    rw [hR2] at HC
    obtain ⟨RK, RS, RN, HRK, HRS, HRN⟩ := why3 R2
    rw [HRK.out, HRS.out, HRN.out] at HC
    replace HC := Lib.hid HC
    have HR2 := Lib.hid hR2
    clear hR2
    have HK2 : Hid (labF rec kind at_ labels kids Zlabels Zkids k = R2) := by show _ = _; rw [labF_rec HX_l.out HIX.out HX_x.out HX_y.out, HP2.out, ← HR2.out]
    have HS : Hid (∀ V, Keep (w.heap.size + 1 + 1) (w.heap.size + 1 + 1 + 1) w1 V → V.cell? ⟨w.heap.size, 3, none⟩ = some (.slice (some ⟨g, off, none⟩) kidsN kidsC) ∧ V.cell? ⟨w.heap.size + 1, 3, none⟩ = some (.slice (some ⟨g2, off2, none⟩) ZkidsN ZkidsC) ∧ V.cell? ⟨g, off + k * 4, none⟩ = some (.int .i64 x_kind) ∧ V.cell? ⟨g, off + k * 4 + 1, none⟩ = some (.string x_name) ∧ V.cell? ⟨g, off + k * 4 + 2, none⟩ = some (x_labelsV) ∧ V.cell? ⟨g, off + k * 4 + 3, none⟩ = some (x_kidsV) ∧ V.cell? ⟨g2, off2 + j * 4, none⟩ = some (.int .i64 y_kind) ∧ V.cell? ⟨g2, off2 + j * 4 + 1, none⟩ = some (.string y_name) ∧ V.cell? ⟨g2, off2 + j * 4 + 2, none⟩ = some (y_labelsV) ∧ V.cell? ⟨g2, off2 + j * 4 + 3, none⟩ = some (y_kidsV)) := Lib.hid fun V hV => ⟨(hV.cell (p := ⟨w.heap.size, 3, none⟩) (by simp only; omega) (by simp only; omega)).trans a3, (hV.cell (p := ⟨w.heap.size + 1, 3, none⟩) (by simp only; omega) (by simp only; omega)).trans z3, (hV.cell (p := ⟨g, off + k * 4, none⟩) (by simp only; omega) (by simp only; omega)).trans c_x_kind, (hV.cell (p := ⟨g, off + k * 4 + 1, none⟩) (by simp only; omega) (by simp only; omega)).trans c_x_name, (hV.cell (p := ⟨g, off + k * 4 + 2, none⟩) (by simp only; omega) (by simp only; omega)).trans c_x_labels, (hV.cell (p := ⟨g, off + k * 4 + 3, none⟩) (by simp only; omega) (by simp only; omega)).trans c_x_kids, (hV.cell (p := ⟨g2, off2 + j * 4, none⟩) (by simp only; omega) (by simp only; omega)).trans c_y_kind, (hV.cell (p := ⟨g2, off2 + j * 4 + 1, none⟩) (by simp only; omega) (by simp only; omega)).trans c_y_name, (hV.cell (p := ⟨g2, off2 + j * 4 + 2, none⟩) (by simp only; omega) (by simp only; omega)).trans c_y_labels, (hV.cell (p := ⟨g2, off2 + j * 4 + 3, none⟩) (by simp only; omega) (by simp only; omega)).trans c_y_kids⟩
    clear bA1 bC1
    go_wp2_with fail
    go_region_held3 (fun w' => w'.cell? ⟨w.heap.size, 3, none⟩ = some (.slice (some ⟨g, off, none⟩) kidsN kidsC) ∧ w'.cell? ⟨w.heap.size + 1, 3, none⟩ = some (.slice (some ⟨g2, off2, none⟩) ZkidsN ZkidsC) ∧ w'.cell? ⟨g, off + k * 4, none⟩ = some (.int .i64 x_kind) ∧ w'.cell? ⟨g, off + k * 4 + 1, none⟩ = some (.string x_name) ∧ w'.cell? ⟨g, off + k * 4 + 2, none⟩ = some (x_labelsV) ∧ w'.cell? ⟨g, off + k * 4 + 3, none⟩ = some (x_kidsV) ∧ w'.cell? ⟨g2, off2 + j * 4, none⟩ = some (.int .i64 y_kind) ∧ w'.cell? ⟨g2, off2 + j * 4 + 1, none⟩ = some (.string y_name) ∧ w'.cell? ⟨g2, off2 + j * 4 + 2, none⟩ = some (y_labelsV) ∧ w'.cell? ⟨g2, off2 + j * 4 + 3, none⟩ = some (y_kidsV))
      (first | exact HS.out _ (by repeat (first | exact hq1 | exact hq2 | exact Keep.refl _ _ _ | refine Keep.drew ?_ | refine Keep.alloc ?_ _ | refine Keep.setAt ?_ _ _ | refine Keep.newAt ?_ (Nat.le_refl _) _ _ | refine Keep.newAt ?_ hbWd.size _ _ | refine Keep.newAt ?_ hbW.size _ _)))
      (first | (go_at_fn fid; refine (HC.out _ (by repeat (first | exact hq1 | exact hq2 | exact Keep.refl _ _ _ | refine Keep.drew ?_ | refine Keep.alloc ?_ _ | refine Keep.setAt ?_ _ _ | refine Keep.newAt ?_ (Nat.le_refl _) _ _ | refine Keep.newAt ?_ hbWd.size _ _ | refine Keep.newAt ?_ hbW.size _ _))).mono ?_; rintro e wq ⟨rfl, hbq⟩; have hbW : Below w1.heap.size w1 wq := (by first | exact (Below.refl _ _).drew.trans hbq | exact ((Below.refl _ _).drew.alloc (Nat.le_refl _) _).trans (hbq.mono (by simp))); have hq2 : Keep (w.heap.size + 1 + 1) (w.heap.size + 1 + 1 + 1) w1 wq := Keep.of_below hbW; (first | (have bP : Blk wq w1.heap.size 34 #[.int .i64 0, .string { data := #[] }] := (Blk.new w1.drew _ _).step hbq; have p0 : wq.cell? ⟨w1.heap.size, 0, none⟩ = some (.int .i64 0) := bP.cell 0; have p1 : wq.cell? ⟨w1.heap.size, 1, none⟩ = some (.string { data := #[] }) := bP.cell 1; have g0 : wq.frozen? ⟨w1.heap.size, 0, none⟩ = false := bP.frozen 0; have g1 : wq.frozen? ⟨w1.heap.size, 1, none⟩ = false := bP.frozen 1) | skip)))
    all_goals
      first
        | (obtain ⟨w6, hw6⟩ : ∃ V, V = wq.alloc (.cells #[.int .i64 RK, .string RS] 34) := ⟨_, rfl⟩; rw [← hw6]; have bX : Blk w6 wq.heap.size 34 #[.int .i64 RK, .string RS] := (by rw [hw6]; exact Blk.new wq _ _); have hb6 : Below w1.heap.size w1 w6 := (by rw [hw6]; exact hbW.alloc hbW.size _); obtain ⟨rx, hrx⟩ : ∃ r, r = wq.heap.size := ⟨_, rfl⟩; have hle6 : w1.heap.size ≤ rx := (by rw [hrx]; exact hbW.size); rw [← hrx] at bX ⊢; clear hw6 hrx)
        | (obtain ⟨w6, hw6⟩ : ∃ V, V = (wq.setCell ⟨w1.heap.size, 0, none⟩ (.int .i64 RK)).setCell ⟨w1.heap.size, 1, none⟩ (.string RS) := ⟨_, rfl⟩; rw [← hw6]; have bX : Blk w6 (w1.heap.size) 34 #[.int .i64 RK, .string RS] := (by rw [hw6]; have := (bP.set_ 0 (.int .i64 RK)).set_ 1 (.string RS); simpa using this); have hb6 : Below w1.heap.size w1 w6 := (by rw [hw6]; exact (hbW.setCell (p := ⟨w1.heap.size, 0, none⟩) (by first | exact Nat.le_refl _ | exact hbWd.size | exact hbW.size) _).setCell (p := ⟨w1.heap.size, 1, none⟩) (by first | exact Nat.le_refl _ | exact hbWd.size | exact hbW.size) _); obtain ⟨rx, hrx⟩ : ∃ r, r = w1.heap.size := ⟨_, rfl⟩; have hle6 : w1.heap.size ≤ rx := (by rw [hrx]; first | exact Nat.le_refl _ | exact hbW.size | exact hbWd.size); rw [← hrx] at bX ⊢; clear hw6 hrx)
      have hB6 := hB1.trans (hb6.mono (by omega))
      have bR6 := bR1.step hb6
      have hs6 := hb6.size
      cases RN
      case false =>
        have HQ : Hid (firstW (labF rec kind at_ labels kids Zlabels Zkids) (k + 1) = none) := by show _ = _; exact firstW_next HP.out (by rw [HK2.out]; exact why_none HRN.out)
        go_wp2_with fail
        go_roundw
        case rel => exact ⟨k + 1, by omega, by go_num, HQ, hbr1.trans (hb6.mono (by omega))⟩
        case measure => simp [intOf]; omega
      case true =>
        have HF : Hid (R = some (RK, RS)) := by show _ = _; rw [HF0.out, ← HRK.out, ← HRS.out]; exact firstW_hit HP.out (by rw [HK2.out]; exact why_some HRN.out) _ hlt
        obtain ⟨q0, q1⟩ := rq bX
        obtain ⟨r0, r1, f0, f1⟩ := zr bR6
        go_wp2_with fail
        obtain ⟨n0, n1, nB⟩ := ret3 bR6 hB6 (by omega) (RK) (RS)
        exact bodyPost_ret (v := .tuple #[.agg #[.int .i64 RK, .string RS], .bool true]) (by simp [results, Tryz.results119, go_sem, n0, n1]) rfl ⟨ret_why (by rw [HF.out]; rfl) (by rw [HF.out]; rfl) (by rw [HF.out]; rfl), nB⟩
end Go.Proofs.YtbafphecjijdmaaGreatDoor

