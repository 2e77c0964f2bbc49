/-
  Why one function type cannot stand for another: impl.whyNotFunc (by program: gen_why.py).
-/
import Derived.Test.YtbafphecjijdmaaGreatDoorWyI2
import Derived.Test.YtbafphecjijdmaaGreatDoorWyF
import Derived.Deep.RegionHeld3
namespace Go.Proofs.YtbafphecjijdmaaGreatDoor
open Go.RowKit
set_option linter.unusedVariables false
set_option linter.unusedSimpArgs false
set_option linter.unnecessarySimpa false
set_option maxRecDepth 16000


set_option maxHeartbeats 12800000 in
theorem implFuncW_any : FuncC 50 := by
  intro a b at_ B cs ds w hB hT ha hb hat h k
  obtain ⟨apar, ⟨ark, arn, arl, art⟩, aas⟩ := a
  obtain ⟨aparV, arlV, artV, rfl, r_apar, r_arl, r_art⟩ := FuncType.open_ h
  obtain ⟨aparA, aparN, aparC, rfl⟩ := r_apar.form
  have R_apar := Lib.hid r_apar
  clear r_apar
  obtain ⟨arlA, arlN, arlC, rfl⟩ := r_arl.form
  have R_arl := Lib.hid r_arl
  clear r_arl
  obtain ⟨artA, artN, artC, rfl⟩ := r_art.form
  have R_art := Lib.hid r_art
  clear r_art
  obtain ⟨bpar, ⟨brk, brn, brl, brt⟩, bas⟩ := b
  obtain ⟨bparV, brlV, brtV, rfl, r_bpar, r_brl, r_brt⟩ := FuncType.open_ k
  obtain ⟨bparA, bparN, bparC, rfl⟩ := r_bpar.form
  have R_bpar := Lib.hid r_bpar
  clear r_bpar
  obtain ⟨brlA, brlN, brlC, rfl⟩ := r_brl.form
  have R_brl := Lib.hid r_brl
  clear r_brl
  obtain ⟨brtA, brtN, brtC, rfl⟩ := r_brt.form
  have R_brt := Lib.hid r_brt
  clear r_brt
  clear h k
  have HREC := Lib.hid (implWhy_all 4 (by omega))
  have OA := Lib.hid ha
  have OB := Lib.hid hb
  clear ha hb
  obtain ⟨R, hR⟩ : ∃ R : Why, R = funcW (whyT 4) ⟨apar, ⟨ark, arn, arl, art⟩, aas⟩ ⟨bpar, ⟨brk, brn, brl, brt⟩, bas⟩ at_ := ⟨_, rfl⟩
  rw [← hR]
  have HR := Lib.hid hR
  clear hR
  obtain ⟨_, _, _, he, hn_apar, hm_apar, hat_apar⟩ := rep_row Param.pd_length (by decide) R_apar.out
  injection he with e1 e2 e3
  subst e1 e2 e3
  unfold maxLen at hm_apar
  have HN_apar := Lib.hid hn_apar
  clear hn_apar
  obtain ⟨_, _, _, he, hn_bpar, hm_bpar, hat_bpar⟩ := rep_row Param.pd_length (by decide) R_bpar.out
  injection he with e1 e2 e3
  subst e1 e2 e3
  unfold maxLen at hm_bpar
  have HN_bpar := Lib.hid hn_bpar
  clear hn_bpar
  have h6 : aparN ≤ 6 := by have := OA.out.len; have := HN_apar.out; simp only at *; omega
  obtain ⟨w0, hw0, bA, bC, bR, hB0, hs0⟩ := box3 w 62 #[.slice aparA aparN aparC, .int .i64 ark, .string arn, .slice arlA arlN arlC, .slice artA artN artC, .bool aas] #[.slice bparA bparN bparC, .int .i64 brk, .string brn, .slice brlA brlN brlC, .slice brtA brtN brtC, .bool bas]
  have HW0 := Lib.hid hw0
  clear hw0
  by_cases hl : aparN = bparN
  case neg =>
    have HF : Hid (R = some (7, at_)) := by show _ = _; rw [HR.out, funcW_len (by have := HN_apar.out; have := HN_bpar.out; simp only; omega)]
    have hne : ((aparN : Int) != (bparN : Int)) = true := by simp; omega
    go_enter Tryz.func50, Tryz.ntmps50
    go_wp2_with fail
    try rw [← HW0.out]
    refine (implNo_any 7 at_ _).mono ?_
    rintro e wz ⟨rfl, hbz⟩
    have hBz := hB0.trans (hbz.mono (by omega))
    have bRz := bR.step hbz
    have hsz := hbz.size
    obtain ⟨r0, r1, f0, f1⟩ := zr bRz
    go_wp2_with fail
    obtain ⟨n0, n1, nB⟩ := ret3 bRz hBz (by omega) (7) (at_)
    exact bodyPost_ret (v := .tuple #[.agg #[.int .i64 7, .string at_], .bool true]) (by simp [results, Tryz.results50, go_sem, n0, n1]) rfl ⟨ret_why (by rw [HF.out]; rfl) (by rw [HF.out]; rfl) (by rw [HF.out]; rfl), nB⟩
  subst hl
  have HLEN : Hid (apar.length = bpar.length) := by show _ = _; rw [← HN_apar.out, HN_bpar.out]
  go_enter Tryz.func50, Tryz.ntmps50
  go_wp2_with fail
  rw [← HW0.out]
  clear HW0
  go_loopw [29] (fun i wr => ∃ k : Nat, k ≤ aparN ∧ i = .int .i64 k ∧ Hid (firstW (funcF (whyT 4) at_ apar bpar) k = none) ∧ Below w0.heap.size w0 wr) (fun i _ => aparN - (intOf i).toNat)
  case atStart => exact ⟨0, Nat.zero_le _, rfl, Lib.hid rfl, Below.refl _ _⟩
  case round =>
    obtain ⟨k, hk, rfl, HP, hbr⟩ := hrel
    have hBr := hB0.trans (hbr.mono (by omega))
    have hsr := hbr.size
    have bRr := bR.step hbr
    have bAr := bA.step hbr
    have bCr := bC.step hbr
    clear bA bC bR
    have a0 : wr.cell? ⟨w.heap.size, 0, none⟩ = some (.slice aparA aparN aparC) := bAr.cell 0
    have z0 : wr.cell? ⟨w.heap.size + 1, 0, none⟩ = some (.slice bparA aparN bparC) := bCr.cell 0
    by_cases hlt : k < aparN
    case pos =>
      have hlti : (k : Int) < (aparN : Int) := by omega
      have hk0 : (0 : Int) ≤ (k : Int) := by omega
      obtain ⟨g, off, rfl, hg_apar, hcell_apar⟩ := hat_apar (by omega)
      obtain ⟨x, hx_x, hmem_x⟩ := at_lt HN_apar.out hlt
      obtain ⟨x_name, ⟨x_kind, x_tname, x_labels, x_kids⟩⟩ := x
      obtain ⟨x_labelsV, x_kidsV, c_x_name, c_x_kind, c_x_tname, c_x_labels, c_x_kids, R_x_labels, R_x_kids⟩ := parAt (k := k) (hBr.mono (Nat.le_refl _)) hg_apar hB hcell_apar hx_x
      replace R_x_labels := Lib.hid R_x_labels
      replace R_x_kids := Lib.hid R_x_kids
      have HX_x := Lib.hid hx_x
      have HM_x := Lib.hid hmem_x
      clear hx_x hmem_x
      obtain ⟨g2, off2, rfl, hg_bpar, hcell_bpar⟩ := hat_bpar (by omega)
      obtain ⟨y, hx_y, hmem_y⟩ := at_lt HN_bpar.out hlt
      obtain ⟨y_name, ⟨y_kind, y_tname, y_labels, y_kids⟩⟩ := y
      obtain ⟨y_labelsV, y_kidsV, c_y_name, c_y_kind, c_y_tname, c_y_labels, c_y_kids, R_y_labels, R_y_kids⟩ := parAt (k := k) (hBr.mono (Nat.le_refl _)) hg_bpar hB hcell_bpar hx_y
      replace R_y_labels := Lib.hid R_y_labels
      replace R_y_kids := Lib.hid R_y_kids
      have HX_y := Lib.hid hx_y
      have HM_y := Lib.hid hmem_y
      clear hx_y hmem_y
      have OX := Lib.hid (OA.out.par _ HM_x.out)
      have OY := Lib.hid (OB.out.par _ HM_y.out)
      have l_yn : y_name.size ≤ 12 := OY.out.2
      have y_p1 : (9223372036854775807 < at_.size + (⟨#[40]⟩ : ByteArray).size) = False := eq_false (by have z_ : (⟨#[40]⟩ : ByteArray).size = 1 := rfl; omega)
      have x_p1 : (9223372036854775807 < at_.size + 1) = False := eq_false (by omega)
      obtain ⟨p1, e_p1⟩ : ∃ p, at_ ++ (⟨#[40]⟩ : ByteArray) = p := ⟨_, rfl⟩
      have l_p1 : p1.size ≤ 900001 := by rw [← e_p1, ByteArray.size_append]; have z_ : (⟨#[40]⟩ : ByteArray).size = 1 := rfl; omega
      have y_p2 : (9223372036854775807 < p1.size + y_name.size) = False := eq_false (by omega)
      obtain ⟨p2, e_p2⟩ : ∃ p, p1 ++ y_name = p := ⟨_, rfl⟩
      have l_p2 : p2.size ≤ 900013 := by rw [← e_p2, ByteArray.size_append]; omega
      have y_p3 : (9223372036854775807 < p2.size + (⟨#[41]⟩ : ByteArray).size) = False := eq_false (by have z_ : (⟨#[41]⟩ : ByteArray).size = 1 := rfl; omega)
      have x_p3 : (9223372036854775807 < p2.size + 1) = False := eq_false (by omega)
      obtain ⟨p3, e_p3⟩ : ∃ p, p2 ++ (⟨#[41]⟩ : ByteArray) = p := ⟨_, rfl⟩
      have l_p3 : p3.size ≤ 900014 := by rw [← e_p3, ByteArray.size_append]; have z_ : (⟨#[41]⟩ : ByteArray).size = 1 := rfl; omega
      have HP3 : Hid (parL at_ y_name = p3) := by show _ = _; rw [← e_p3, ← e_p2, ← e_p1]; rfl
      obtain ⟨y_labelsA, y_labelsN, y_labelsC, rfl⟩ := R_y_labels.out.form
      obtain ⟨y_kidsA, y_kidsN, y_kidsC, rfl⟩ := R_y_kids.out.form
      obtain ⟨w5, hw5⟩ : ∃ W, W = wr.alloc (.cells #[.string y_name, .int .i64 y_kind, .string y_tname, .slice y_labelsA y_labelsN y_labelsC, .slice y_kidsA y_kidsN y_kidsC] 115) := ⟨_, rfl⟩
      have b5 : Blk w5 wr.heap.size 115 #[.string y_name, .int .i64 y_kind, .string y_tname, .slice y_labelsA y_labelsN y_labelsC, .slice y_kidsA y_kidsN y_kidsC] := by rw [hw5]; exact Blk.new wr _ _
      have hb5 : Below wr.heap.size wr w5 := by rw [hw5]; exact (Below.refl _ _).alloc (Nat.le_refl _) _
      have hs5 : wr.heap.size < w5.heap.size := b5.lt
      have hB5 := hBr.trans (hb5.mono (by omega))
      have bR5 := bRr.step hb5
      have bA5 := bAr.step hb5
      have e5_0 : (wr.alloc (.cells #[.string y_name, .int .i64 y_kind, .string y_tname, .slice y_labelsA y_labelsN y_labelsC, .slice y_kidsA y_kidsN y_kidsC] 115)).cell? ⟨wr.heap.size, 0, none⟩ = some (.string y_name) := by rw [← hw5]; exact b5.cell 0
      have HW5 := Lib.hid hw5
      clear hw5
      have d0 : w5.cell? ⟨wr.heap.size, 0, none⟩ = some (.string y_name) := b5.cell 0
      have d1 : w5.cell? ⟨wr.heap.size, 1, none⟩ = some (.int .i64 y_kind) := b5.cell 1
      have d2 : w5.cell? ⟨wr.heap.size, 2, none⟩ = some (.string y_tname) := b5.cell 2
      have d3 : w5.cell? ⟨wr.heap.size, 3, none⟩ = some (.slice y_labelsA y_labelsN y_labelsC) := b5.cell 3
      have d4 : w5.cell? ⟨wr.heap.size, 4, none⟩ = some (.slice y_kidsA y_kidsN y_kidsC) := b5.cell 4
      have fc_x_name : w5.cell? ⟨g, off + k * 5, none⟩ = some (.string x_name) := (hb5.cell (p := ⟨g, off + k * 5, none⟩) (by simp only; omega)).trans c_x_name
      have fc_x_kind : w5.cell? ⟨g, off + k * 5 + 1, none⟩ = some (.int .i64 x_kind) := (hb5.cell (p := ⟨g, off + k * 5 + 1, none⟩) (by simp only; omega)).trans c_x_kind
      have fc_x_tname : w5.cell? ⟨g, off + k * 5 + 2, none⟩ = some (.string x_tname) := (hb5.cell (p := ⟨g, off + k * 5 + 2, none⟩) (by simp only; omega)).trans c_x_tname
      have fc_x_labels : w5.cell? ⟨g, off + k * 5 + 3, none⟩ = some (x_labelsV) := (hb5.cell (p := ⟨g, off + k * 5 + 3, none⟩) (by simp only; omega)).trans c_x_labels
      have fc_x_kids : w5.cell? ⟨g, off + k * 5 + 4, none⟩ = some (x_kidsV) := (hb5.cell (p := ⟨g, off + k * 5 + 4, none⟩) (by simp only; omega)).trans c_x_kids
      have a5 : w5.cell? ⟨w.heap.size, 0, none⟩ = some (.slice (some ⟨g, off, none⟩) aparN aparC) := bA5.cell 0
      have hbr5 := hbr.trans (hb5.mono hsr)
      by_cases hnm : x_name = y_name
      case neg =>
        have HF : Hid (R = some (7, p3)) := by show _ = _; rw [HR.out, ← HP3.out]; exact funcW_par HLEN.out (firstW_hit HP.out (funcF_ne HX_x.out HX_y.out hnm) _ (by have := HN_apar.out; simp only; omega))
        have hs1 : (x_name.toList == y_name.toList) = false := str_ne2 hnm
        have hs2 : (x_name.toList != y_name.toList) = true := by simpa using hs1
        clear hnm
        have HS : Hid (∀ V, Keep (w.heap.size + 1 + 1) (w.heap.size + 1 + 1 + 1) w5 V → V.cell? ⟨w.heap.size, 0, none⟩ = some (.slice (some ⟨g, off, none⟩) aparN aparC) ∧ V.cell? ⟨g, off + k * 5, none⟩ = some (.string x_name) ∧ V.cell? ⟨wr.heap.size, 0, none⟩ = some (.string y_name)) := Lib.hid fun V hV => ⟨(hV.cell (p := ⟨w.heap.size, 0, none⟩) (by simp only; omega) (by simp only; omega)).trans a5, (hV.cell (p := ⟨g, off + k * 5, none⟩) (by simp only; omega) (by simp only; omega)).trans fc_x_name, (hV.cell (p := ⟨wr.heap.size, 0, none⟩) (by simp only; omega) (by simp only; omega)).trans d0⟩
        go_wp2_with fail
        rw [← HW5.out]
        go_region_held3 (fun w' => w'.cell? ⟨w.heap.size, 0, none⟩ = some (.slice (some ⟨g, off, none⟩) aparN aparC) ∧ w'.cell? ⟨g, off + k * 5, none⟩ = some (.string x_name) ∧ w'.cell? ⟨wr.heap.size, 0, none⟩ = some (.string y_name))
          (first | exact HS.out _ (by repeat (first | exact hq1 | exact hq2 | exact Keep.refl _ _ _ | refine Keep.drew ?_ | refine Keep.alloc ?_ _ | refine Keep.setAt ?_ _ _ | refine Keep.newAt ?_ (Nat.le_refl _) _ _ | refine Keep.newAt ?_ hbWd.size _ _ | refine Keep.newAt ?_ hbW.size _ _)))
          (fail)
        obtain ⟨w7, hq7⟩ : ∃ V, V = w5.drew := ⟨_, rfl⟩
        rw [← hq7]
        have hb7 : Below w5.heap.size w5 w7 := by rw [hq7]; exact (Below.refl _ _).drew
        have hs7 := hb7.size
        clear hq7 HS
        have hB7 := hB5.trans (hb7.mono (by omega))
        have bR7 := bR5.step hb7
        go_wp2_with fail
        refine (implNo_any 7 p3 _).mono ?_
        rintro e wz ⟨rfl, hbz⟩
        have hBz := hB7.trans (hbz.mono (by omega))
        have bRz := bR7.step hbz
        have hsz := hbz.size
        obtain ⟨r0, r1, f0, f1⟩ := zr bRz
        go_wp2_with fail
        obtain ⟨n0, n1, nB⟩ := ret3 bRz hBz (by omega) (7) (p3)
        exact bodyPost_ret (v := .tuple #[.agg #[.int .i64 7, .string p3], .bool true]) (by simp [results, Tryz.results50, go_sem, n0, n1]) rfl ⟨ret_why (by rw [HF.out]; rfl) (by rw [HF.out]; rfl) (by rw [HF.out]; rfl), nB⟩
      subst hnm
      have HS : Hid (∀ V, Keep (w.heap.size + 1 + 1) (w.heap.size + 1 + 1 + 1) w5 V → V.cell? ⟨w.heap.size, 0, none⟩ = some (.slice (some ⟨g, off, none⟩) aparN aparC) ∧ V.cell? ⟨g, off + k * 5, none⟩ = some (.string x_name) ∧ V.cell? ⟨wr.heap.size, 0, none⟩ = some (.string x_name)) := Lib.hid fun V hV => ⟨(hV.cell (p := ⟨w.heap.size, 0, none⟩) (by simp only; omega) (by simp only; omega)).trans a5, (hV.cell (p := ⟨g, off + k * 5, none⟩) (by simp only; omega) (by simp only; omega)).trans fc_x_name, (hV.cell (p := ⟨wr.heap.size, 0, none⟩) (by simp only; omega) (by simp only; omega)).trans d0⟩
      go_wp2_with fail
      rw [← HW5.out]
      go_region_held3 (fun w' => w'.cell? ⟨w.heap.size, 0, none⟩ = some (.slice (some ⟨g, off, none⟩) aparN aparC) ∧ w'.cell? ⟨g, off + k * 5, none⟩ = some (.string x_name) ∧ w'.cell? ⟨wr.heap.size, 0, none⟩ = some (.string x_name))
        (first | exact HS.out _ (by repeat (first | exact hq1 | exact hq2 | exact Keep.refl _ _ _ | refine Keep.drew ?_ | refine Keep.alloc ?_ _ | refine Keep.setAt ?_ _ _ | refine Keep.newAt ?_ (Nat.le_refl _) _ _ | refine Keep.newAt ?_ hbWd.size _ _ | refine Keep.newAt ?_ hbW.size _ _)))
        (fail)
      obtain ⟨w7, hq7⟩ : ∃ V, V = w5.drew := ⟨_, rfl⟩
      rw [← hq7]
      have hb7 : Below w5.heap.size w5 w7 := by rw [hq7]; exact (Below.refl _ _).drew
      have hs7 := hb7.size
      clear hq7 HS
      have hB7 := hB5.trans (hb7.mono (by omega))
      have bR7 := bR5.step hb7
      have s0 : w7.cell? ⟨w.heap.size, 0, none⟩ = some (.slice (some ⟨g, off, none⟩) aparN aparC) := (hb7.cell (p := ⟨w.heap.size, 0, none⟩) (by simp only; omega)).trans a5
      have s1 : w7.cell? ⟨g, off + k * 5 + 1, none⟩ = some (.int .i64 x_kind) := (hb7.cell (p := ⟨g, off + k * 5 + 1, none⟩) (by simp only; omega)).trans fc_x_kind
      have s2 : w7.cell? ⟨g, off + k * 5 + 2, none⟩ = some (.string x_tname) := (hb7.cell (p := ⟨g, off + k * 5 + 2, none⟩) (by simp only; omega)).trans fc_x_tname
      have s3 : w7.cell? ⟨g, off + k * 5 + 3, none⟩ = some (x_labelsV) := (hb7.cell (p := ⟨g, off + k * 5 + 3, none⟩) (by simp only; omega)).trans fc_x_labels
      have s4 : w7.cell? ⟨g, off + k * 5 + 4, none⟩ = some (x_kidsV) := (hb7.cell (p := ⟨g, off + k * 5 + 4, none⟩) (by simp only; omega)).trans fc_x_kids
      have s5 : w7.cell? ⟨wr.heap.size, 1, none⟩ = some (.int .i64 y_kind) := (hb7.cell (p := ⟨wr.heap.size, 1, none⟩) (by simp only; omega)).trans d1
      have s6 : w7.cell? ⟨wr.heap.size, 2, none⟩ = some (.string y_tname) := (hb7.cell (p := ⟨wr.heap.size, 2, none⟩) (by simp only; omega)).trans d2
      have s7 : w7.cell? ⟨wr.heap.size, 3, none⟩ = some (.slice y_labelsA y_labelsN y_labelsC) := (hb7.cell (p := ⟨wr.heap.size, 3, none⟩) (by simp only; omega)).trans d3
      have s8 : w7.cell? ⟨wr.heap.size, 4, none⟩ = some (.slice y_kidsA y_kidsN y_kidsC) := (hb7.cell (p := ⟨wr.heap.size, 4, none⟩) (by simp only; omega)).trans d4
      obtain ⟨R2, hR2⟩ : ∃ r, whyT 4 ⟨y_kind, y_tname, y_labels, y_kids⟩ ⟨x_kind, x_tname, x_labels, x_kids⟩ p3 = r := ⟨_, rfl⟩
      have HC := fun (V : World) (hV : Keep (w.heap.size + 1 + 1) (w.heap.size + 1 + 1 + 1) w7 V) => HREC.out ⟨y_kind, y_tname, y_labels, y_kids⟩ ⟨x_kind, x_tname, x_labels, x_kids⟩ p3 B [.int .i64 y_kind, .string y_tname, .slice y_labelsA y_labelsN y_labelsC, .slice y_kidsA y_kidsN y_kidsC] [.int .i64 x_kind, .string x_tname, x_labelsV, x_kidsV] V (Nat.le_trans (Nat.le_trans hB hB7.size) hV.size) (hT.below (hB7.trans (kb hV (by omega)))) OY.out.1 OX.out.1 (by omega) ((((Ty.close_ R_y_labels.out R_y_kids.out).below (hb5.mono (by omega))).below (hb7.mono (by omega))).below (kb hV (by omega))) ((((Ty.close_ R_x_labels.out R_x_kids.out).below (hb5.mono (by omega))).below (hb7.mono (by omega))).below (kb hV (by omega)))
      unfold WQ at HC
      rw [hR2] at HC
      obtain ⟨RK, RS, RN, HRK, HRS, HRN⟩ := why3 R2
      rw [HRK.out, HRS.out, HRN.out] at HC
      replace HC := Lib.hid HC
      have HR2 := Lib.hid hR2
      clear hR2
      have HK2 : Hid (funcF (whyT 4) at_ apar bpar k = R2) := by show _ = _; rw [funcF_eq HX_x.out HX_y.out rfl]; simp only; rw [HP3.out, ← HR2.out]
      have HS : Hid (∀ V, Keep (w.heap.size + 1 + 1) (w.heap.size + 1 + 1 + 1) w7 V → V.cell? ⟨w.heap.size, 0, none⟩ = some (.slice (some ⟨g, off, none⟩) aparN aparC) ∧ V.cell? ⟨g, off + k * 5 + 1, none⟩ = some (.int .i64 x_kind) ∧ V.cell? ⟨g, off + k * 5 + 2, none⟩ = some (.string x_tname) ∧ V.cell? ⟨g, off + k * 5 + 3, none⟩ = some (x_labelsV) ∧ V.cell? ⟨g, off + k * 5 + 4, none⟩ = some (x_kidsV) ∧ V.cell? ⟨wr.heap.size, 1, none⟩ = some (.int .i64 y_kind) ∧ V.cell? ⟨wr.heap.size, 2, none⟩ = some (.string y_tname) ∧ V.cell? ⟨wr.heap.size, 3, none⟩ = some (.slice y_labelsA y_labelsN y_labelsC) ∧ V.cell? ⟨wr.heap.size, 4, none⟩ = some (.slice y_kidsA y_kidsN y_kidsC)) := Lib.hid fun V hV => ⟨(hV.cell (p := ⟨w.heap.size, 0, none⟩) (by simp only; omega) (by simp only; omega)).trans s0, (hV.cell (p := ⟨g, off + k * 5 + 1, none⟩) (by simp only; omega) (by simp only; omega)).trans s1, (hV.cell (p := ⟨g, off + k * 5 + 2, none⟩) (by simp only; omega) (by simp only; omega)).trans s2, (hV.cell (p := ⟨g, off + k * 5 + 3, none⟩) (by simp only; omega) (by simp only; omega)).trans s3, (hV.cell (p := ⟨g, off + k * 5 + 4, none⟩) (by simp only; omega) (by simp only; omega)).trans s4, (hV.cell (p := ⟨wr.heap.size, 1, none⟩) (by simp only; omega) (by simp only; omega)).trans s5, (hV.cell (p := ⟨wr.heap.size, 2, none⟩) (by simp only; omega) (by simp only; omega)).trans s6, (hV.cell (p := ⟨wr.heap.size, 3, none⟩) (by simp only; omega) (by simp only; omega)).trans s7, (hV.cell (p := ⟨wr.heap.size, 4, none⟩) (by simp only; omega) (by simp only; omega)).trans s8⟩
      go_wp2_with fail
      go_region_held3 (fun w' => w'.cell? ⟨w.heap.size, 0, none⟩ = some (.slice (some ⟨g, off, none⟩) aparN aparC) ∧ w'.cell? ⟨g, off + k * 5 + 1, none⟩ = some (.int .i64 x_kind) ∧ w'.cell? ⟨g, off + k * 5 + 2, none⟩ = some (.string x_tname) ∧ w'.cell? ⟨g, off + k * 5 + 3, none⟩ = some (x_labelsV) ∧ w'.cell? ⟨g, off + k * 5 + 4, none⟩ = some (x_kidsV) ∧ w'.cell? ⟨wr.heap.size, 1, none⟩ = some (.int .i64 y_kind) ∧ w'.cell? ⟨wr.heap.size, 2, none⟩ = some (.string y_tname) ∧ w'.cell? ⟨wr.heap.size, 3, none⟩ = some (.slice y_labelsA y_labelsN y_labelsC) ∧ w'.cell? ⟨wr.heap.size, 4, none⟩ = some (.slice y_kidsA y_kidsN y_kidsC))
        (first | exact HS.out _ (by repeat (first | exact hq1 | exact hq2 | exact Keep.refl _ _ _ | refine Keep.drew ?_ | refine Keep.alloc ?_ _ | refine Keep.setAt ?_ _ _ | refine Keep.newAt ?_ (Nat.le_refl _) _ _ | refine Keep.newAt ?_ hbWd.size _ _ | refine Keep.newAt ?_ hbW.size _ _)))
        (first | (go_at_call 86; refine (HC.out _ (by repeat (first | exact hq1 | exact hq2 | exact Keep.refl _ _ _ | refine Keep.drew ?_ | refine Keep.alloc ?_ _ | refine Keep.setAt ?_ _ _ | refine Keep.newAt ?_ (Nat.le_refl _) _ _ | refine Keep.newAt ?_ hbWd.size _ _ | refine Keep.newAt ?_ hbW.size _ _))).mono ?_; rintro e wq ⟨rfl, hbq⟩; have hbW : Below w7.heap.size w7 wq := (by first | exact (Below.refl _ _).drew.trans hbq | exact ((Below.refl _ _).drew.alloc (Nat.le_refl _) _).trans (hbq.mono (by simp))); have hq2 : Keep (w.heap.size + 1 + 1) (w.heap.size + 1 + 1 + 1) w7 wq := Keep.of_below hbW; (first | (have bP : Blk wq w7.heap.size 34 #[.int .i64 0, .string { data := #[] }] := (Blk.new w7.drew _ _).step hbq; have p0 : wq.cell? ⟨w7.heap.size, 0, none⟩ = some (.int .i64 0) := bP.cell 0; have p1 : wq.cell? ⟨w7.heap.size, 1, none⟩ = some (.string { data := #[] }) := bP.cell 1; have g0 : wq.frozen? ⟨w7.heap.size, 0, none⟩ = false := bP.frozen 0; have g1 : wq.frozen? ⟨w7.heap.size, 1, none⟩ = false := bP.frozen 1) | skip)))
      all_goals
        first
          | (obtain ⟨w6, hw6⟩ : ∃ V, V = wq.alloc (.cells #[.int .i64 RK, .string RS] 34) := ⟨_, rfl⟩; rw [← hw6]; have bX : Blk w6 wq.heap.size 34 #[.int .i64 RK, .string RS] := (by rw [hw6]; exact Blk.new wq _ _); have hb6 : Below w7.heap.size w7 w6 := (by rw [hw6]; exact hbW.alloc hbW.size _); obtain ⟨rx, hrx⟩ : ∃ r, r = wq.heap.size := ⟨_, rfl⟩; have hle6 : w7.heap.size ≤ rx := (by rw [hrx]; exact hbW.size); rw [← hrx] at bX ⊢; clear hw6 hrx)
          | (obtain ⟨w6, hw6⟩ : ∃ V, V = (wq.setCell ⟨w7.heap.size, 0, none⟩ (.int .i64 RK)).setCell ⟨w7.heap.size, 1, none⟩ (.string RS) := ⟨_, rfl⟩; rw [← hw6]; have bX : Blk w6 (w7.heap.size) 34 #[.int .i64 RK, .string RS] := (by rw [hw6]; have := (bP.set_ 0 (.int .i64 RK)).set_ 1 (.string RS); simpa using this); have hb6 : Below w7.heap.size w7 w6 := (by rw [hw6]; exact (hbW.setCell (p := ⟨w7.heap.size, 0, none⟩) (by first | exact Nat.le_refl _ | exact hbWd.size | exact hbW.size) _).setCell (p := ⟨w7.heap.size, 1, none⟩) (by first | exact Nat.le_refl _ | exact hbWd.size | exact hbW.size) _); obtain ⟨rx, hrx⟩ : ∃ r, r = w7.heap.size := ⟨_, rfl⟩; have hle6 : w7.heap.size ≤ rx := (by rw [hrx]; first | exact Nat.le_refl _ | exact hbW.size | exact hbWd.size); rw [← hrx] at bX ⊢; clear hw6 hrx)
        have hB6 := hB7.trans (hb6.mono (by omega))
        have bR6 := bR7.step hb6
        have hs6 := hb6.size
        cases RN
        case false =>
          have HQ : Hid (firstW (funcF (whyT 4) at_ apar bpar) (k + 1) = none) := by show _ = _; exact firstW_next HP.out (by rw [HK2.out]; exact why_none HRN.out)
          go_wp2_with fail
          go_roundw
          case rel => exact ⟨k + 1, by omega, by go_num, HQ, (hbr5.trans (hb7.mono (by omega))).trans (hb6.mono (by omega))⟩
          case measure => simp [intOf]; omega
        case true =>
          have HF : Hid (R = some (RK, RS)) := by show _ = _; rw [HR.out, ← HRK.out, ← HRS.out]; exact funcW_par HLEN.out (firstW_hit HP.out (by rw [HK2.out]; exact why_some HRN.out) _ (by have := HN_apar.out; simp only; omega))
          obtain ⟨q0, q1⟩ := rq bX
          obtain ⟨r0, r1, f0, f1⟩ := zr bR6
          go_wp2_with fail
          obtain ⟨n0, n1, nB⟩ := ret3 bR6 hB6 (by omega) (RK) (RS)
          exact bodyPost_ret (v := .tuple #[.agg #[.int .i64 RK, .string RS], .bool true]) (by simp [results, Tryz.results50, go_sem, n0, n1]) rfl ⟨ret_why (by rw [HF.out]; rfl) (by rw [HF.out]; rfl) (by rw [HF.out]; rfl), nB⟩
    case neg =>
      have hkn : k = aparN := by omega
      subst hkn
      have HPA : Hid (firstW (funcF (whyT 4) at_ apar bpar) apar.length = none) := by show _ = _; rw [← HN_apar.out]; exact HP.out
      have y_p1 : (9223372036854775807 < at_.size + (⟨#[45, 62]⟩ : ByteArray).size) = False := eq_false (by have z_ : (⟨#[45, 62]⟩ : ByteArray).size = 2 := rfl; omega)
      have x_p1 : (9223372036854775807 < at_.size + 2) = False := eq_false (by omega)
      obtain ⟨p1, e_p1⟩ : ∃ p, at_ ++ (⟨#[45, 62]⟩ : ByteArray) = p := ⟨_, rfl⟩
      have l_p1 : p1.size ≤ 900002 := by rw [← e_p1, ByteArray.size_append]; have z_ : (⟨#[45, 62]⟩ : ByteArray).size = 2 := rfl; omega
      have ra1 : wr.cell? ⟨w.heap.size, 1, none⟩ = some (.int .i64 ark) := bAr.cell 1
      have ra2 : wr.cell? ⟨w.heap.size, 2, none⟩ = some (.string arn) := bAr.cell 2
      have ra3 : wr.cell? ⟨w.heap.size, 3, none⟩ = some (.slice arlA arlN arlC) := bAr.cell 3
      have ra4 : wr.cell? ⟨w.heap.size, 4, none⟩ = some (.slice artA artN artC) := bAr.cell 4
      have ra5 : wr.cell? ⟨w.heap.size, 5, none⟩ = some (.bool aas) := bAr.cell 5
      have rb1 : wr.cell? ⟨w.heap.size + 1, 1, none⟩ = some (.int .i64 brk) := bCr.cell 1
      have rb2 : wr.cell? ⟨w.heap.size + 1, 2, none⟩ = some (.string brn) := bCr.cell 2
      have rb3 : wr.cell? ⟨w.heap.size + 1, 3, none⟩ = some (.slice brlA brlN brlC) := bCr.cell 3
      have rb4 : wr.cell? ⟨w.heap.size + 1, 4, none⟩ = some (.slice brtA brtN brtC) := bCr.cell 4
      have rb5 : wr.cell? ⟨w.heap.size + 1, 5, none⟩ = some (.bool bas) := bCr.cell 5
      have RA : Hid (RepC wr B (Ty.pd ⟨ark, arn, arl, art⟩) [.int .i64 ark, .string arn, .slice arlA arlN arlC, .slice artA artN artC]) := (Ty.close_ R_arl.out R_art.out).below (hBr.mono hB)
      have RBB : Hid (RepC wr B (Ty.pd ⟨brk, brn, brl, brt⟩) [.int .i64 brk, .string brn, .slice brlA brlN brlC, .slice brtA brtN brtC]) := (Ty.close_ R_brl.out R_brt.out).below (hBr.mono hB)
      obtain ⟨R2, hR2⟩ : ∃ r, whyT 4 ⟨ark, arn, arl, art⟩ ⟨brk, brn, brl, brt⟩ p1 = r := ⟨_, rfl⟩
      have HC := fun (V : World) (hV : Keep (w.heap.size + 1 + 1) (w.heap.size + 1 + 1 + 1) wr V) => HREC.out ⟨ark, arn, arl, art⟩ ⟨brk, brn, brl, brt⟩ p1 B [.int .i64 ark, .string arn, .slice arlA arlN arlC, .slice artA artN artC] [.int .i64 brk, .string brn, .slice brlA brlN brlC, .slice brtA brtN brtC] V (Nat.le_trans (Nat.le_trans hB hBr.size) hV.size) (hT.below (hBr.trans (kb hV (by omega)))) OA.out.res OB.out.res (by omega) (RA.out.below (kb hV (by omega))) (RBB.out.below (kb hV (by omega)))
      unfold WQ at HC
      rw [hR2] at HC
      obtain ⟨RK, RS, RN, HRK, HRS, HRN⟩ := why3 R2
      rw [HRK.out, HRS.out, HRN.out] at HC
      replace HC := Lib.hid HC
      have HR2 := Lib.hid hR2
      clear hR2
      go_wp2_with fail
      refine (HC.out wr (Keep.refl _ _ _)).mono ?_
      rintro e wq ⟨rfl, hbq⟩
      have hBq := hBr.trans (hbq.mono (by omega))
      have hsq := hbq.size
      have hB6 : Below w.heap.size w (wq.alloc (.cells #[.int .i64 RK, .string RS] 34)) := hBq.alloc hBq.size _
      have bR6 : Blk (wq.alloc (.cells #[.int .i64 RK, .string RS] 34)) (w.heap.size + 1 + 1) 34 #[.int .i64 0, .string { data := #[] }] := (bRr.step hbq).alloc _
      have hs6 : w.heap.size + 1 + 1 < (wq.alloc (.cells #[.int .i64 RK, .string RS] 34)).heap.size := bR6.lt
      cases RN
      case true =>
        have HF : Hid (R = some (RK, RS)) := by show _ = _; rw [HR.out, ← HRK.out, ← HRS.out]; exact funcW_res HLEN.out HPA.out (by simp only; rw [e_p1, HR2.out]; exact why_some HRN.out)
        have bX : Blk (wq.alloc (.cells #[.int .i64 RK, .string RS] 34)) wq.heap.size 34 #[.int .i64 RK, .string RS] := Blk.new wq _ _
        have q0 : (wq.alloc (.cells #[.int .i64 RK, .string RS] 34)).cell? ⟨wq.heap.size, 0, none⟩ = some (.int .i64 RK) := bX.cell 0
        have q1 : (wq.alloc (.cells #[.int .i64 RK, .string RS] 34)).cell? ⟨wq.heap.size, 1, none⟩ = some (.string RS) := bX.cell 1
        obtain ⟨r0, r1, f0, f1⟩ := zr bR6
        go_wp2_with fail
        obtain ⟨n0, n1, nB⟩ := ret3 bR6 hB6 (by omega) (RK) (RS)
        exact bodyPost_ret (v := .tuple #[.agg #[.int .i64 RK, .string RS], .bool true]) (by simp [results, Tryz.results50, go_sem, n0, n1]) rfl ⟨ret_why (by rw [HF.out]; rfl) (by rw [HF.out]; rfl) (by rw [HF.out]; rfl), nB⟩
      case false =>
        have HFE : Hid (R = if aas = true ∧ bas = false then some (8, at_) else none) := by show _ = _; rw [HR.out]; exact funcW_end HLEN.out HPA.out (by simp only; rw [e_p1, HR2.out]; exact why_none HRN.out)
        have bA6 := (bAr.step hbq).alloc (.cells #[.int .i64 RK, .string RS] 34)
        have bC6 := (bCr.step hbq).alloc (.cells #[.int .i64 RK, .string RS] 34)
        have u5 : (wq.alloc (.cells #[.int .i64 RK, .string RS] 34)).cell? ⟨w.heap.size, 5, none⟩ = some (.bool aas) := bA6.cell 5
        have v5 : (wq.alloc (.cells #[.int .i64 RK, .string RS] 34)).cell? ⟨w.heap.size + 1, 5, none⟩ = some (.bool bas) := bC6.cell 5
        cases aas
        case false =>
          have HF : Hid (R = none) := by show _ = _; rw [HFE.out]; rfl
          go_wp2_with fail
          refine (implNone_any _).mono ?_
          rintro e wz ⟨rfl, hbz⟩
          have hBz := hB6.trans (hbz.mono (by omega))
          have bRz := bR6.step hbz
          have hsz := hbz.size
          obtain ⟨r0, r1, f0, f1⟩ := zr bRz
          go_wp2_with fail
          obtain ⟨n0, n1, nB⟩ := ret3 bRz hBz (by omega) (0) (⟨#[]⟩)
          exact bodyPost_ret (v := .tuple #[.agg #[.int .i64 0, .string { data := #[] }], .bool false]) (by simp [results, Tryz.results50, go_sem, n0, n1]) rfl ⟨ret_why (by rw [HF.out]; rfl) (by rw [HF.out]; rfl) (by rw [HF.out]; rfl), nB⟩
        cases bas
        case true =>
          have HF : Hid (R = none) := by show _ = _; rw [HFE.out]; rfl
          go_wp2_with fail
          refine (implNone_any _).mono ?_
          rintro e wz ⟨rfl, hbz⟩
          have hBz := hB6.trans (hbz.mono (by omega))
          have bRz := bR6.step hbz
          have hsz := hbz.size
          obtain ⟨r0, r1, f0, f1⟩ := zr bRz
          go_wp2_with fail
          obtain ⟨n0, n1, nB⟩ := ret3 bRz hBz (by omega) (0) (⟨#[]⟩)
          exact bodyPost_ret (v := .tuple #[.agg #[.int .i64 0, .string { data := #[] }], .bool false]) (by simp [results, Tryz.results50, go_sem, n0, n1]) rfl ⟨ret_why (by rw [HF.out]; rfl) (by rw [HF.out]; rfl) (by rw [HF.out]; rfl), nB⟩
        case false =>
          have HF : Hid (R = some (8, at_)) := by show _ = _; rw [HFE.out]; rfl
          go_wp2_with fail
          refine (implNo_any 8 at_ _).mono ?_
          rintro e wz ⟨rfl, hbz⟩
          have hBz := hB6.trans (hbz.mono (by omega))
          have bRz := bR6.step hbz
          have hsz := hbz.size
          obtain ⟨r0, r1, f0, f1⟩ := zr bRz
          go_wp2_with fail
          obtain ⟨n0, n1, nB⟩ := ret3 bRz hBz (by omega) (8) (at_)
          exact bodyPost_ret (v := .tuple #[.agg #[.int .i64 8, .string at_], .bool true]) (by simp [results, Tryz.results50, go_sem, n0, n1]) rfl ⟨ret_why (by rw [HF.out]; rfl) (by rw [HF.out]; rfl) (by rw [HF.out]; rfl), nB⟩
end Go.Proofs.YtbafphecjijdmaaGreatDoor

