/-
  ParamsOf of both packages (by program: gen_pa.py).
-/
import Derived.Test.YtmmeaakhikcigaaPaImpl
namespace Go.Proofs.Ytmmeaakhikcigaa
open Go.RowKit
set_option linter.unusedVariables false
set_option linter.unusedSimpArgs false
set_option linter.unnecessarySimpa false
set_option maxRecDepth 16000

def paramsRes (f : FuncType) : List Ty := if funcB f then typs f.params else []
theorem func_ok {f : FuncType} (h : funcB f = true) : f.params.length ≤ 6 ∧ ∀ p ∈ f.params, typeOk p.typ = true := by
  rw [funcB] at h
  simp only [Bool.and_eq_true] at h
  obtain ⟨h1, _, _, h2, _⟩ := h
  refine ⟨of_decide_eq_true h1, fun p hp => ?_⟩
  rw [Bool.not_eq_true', List.any_eq_false] at h2
  have h3 := h2 p hp
  simp only [parB, Bool.not_eq_true, Bool.not_eq_false', Bool.and_eq_true, Bool.not_eq_true'] at h3
  simp at h3
  exact h3.2.1
theorem typs_sz {ps : List Param} (h : ∀ p ∈ ps, typeOk p.typ = true) : (PD.row 4 ((typs ps).flatMap Ty.pd)).sz ≤ 6000 * ps.length := by
  rw [sz_row Ty.pd_length (by decide)]
  induction ps with
  | nil => simp [typs, PD.szL]
  | cons p r ih =>
    have h1 := shapes_sz p.typ (typeOk_shapes (h p (by simp)))
    have h2 := h p (by simp)
    simp only [typeOk, Bool.and_eq_true, decide_eq_true_iff] at h2
    have h3 := ih fun q hq => h q (by simp [hq])
    rw [typs, List.map_cons, List.flatMap_cons, szL_append, List.length_cons, List.length_cons]
    rw [typs] at h3
    omega
theorem paramsRes_sz {f : FuncType} (h : funcB f = true) : (PD.row 4 ((typs f.params).flatMap Ty.pd)).sz ≤ 36000 := by
  obtain ⟨h1, h2⟩ := func_ok h
  have := typs_sz h2
  omega
theorem paramsRes_cnt (f : FuncType) : (PD.row 4 ((paramsRes f).flatMap Ty.pd)).cnt ≤ 1099511627775 := by
  have h1 := PD.cnt_row_le 4 ((paramsRes f).flatMap Ty.pd) (row_fit (ts := paramsRes f) Ty.pd_length (by decide) (by decide) (fun t _ => Ty.fit t))
  have h2 : (PD.row 4 ((paramsRes f).flatMap Ty.pd)).sz ≤ 36000 := by
    rw [paramsRes]
    split
    · rename_i h; exact paramsRes_sz h
    · rw [sz_row Ty.pd_length (by decide)]; simp [PD.szL]
  omega
theorem szL_mem {α : Type} {f : α → List PD} : ∀ {ts : List α} {t : α}, t ∈ ts → PD.szL (f t) ≤ PD.szL (ts.flatMap f)
  | [], t, h => absurd h (by simp)
  | x :: r, t, h => by
    rw [List.flatMap_cons, szL_append]
    rcases List.mem_cons.1 h with rfl | h
    · omega
    · have := szL_mem (f := f) h
      omega
theorem func_sz {f : FuncType} (h : PD.szL (FuncType.pd f) ≤ 1048576) : f.params.length ≤ 1048576 ∧ (∀ p ∈ f.params, PD.szL (Ty.pd p.typ) ≤ 1048576) ∧ PD.szL (Ty.pd f.result) ≤ 1048576 := by
  obtain ⟨params, ⟨result_kind, result_name, result_labels, result_kids⟩, async⟩ := f
  have e1 := sz_row Param.pd_length (by decide) params
  have h0 : PD.szL (FuncType.pd ⟨params, ⟨result_kind, result_name, result_labels, result_kids⟩, async⟩) = (PD.row 5 (params.flatMap Param.pd)).sz + (PD.szL (Ty.pd ⟨result_kind, result_name, result_labels, result_kids⟩) + (PD.lit (.bool async)).sz) := by
    rw [FuncType.pd_mk, Ty.pd_mk]
    simp only [PD.szL]
    omega
  refine ⟨by show params.length ≤ _; omega, fun p hp => ?_, by show PD.szL (Ty.pd ⟨_, _, _, _⟩) ≤ _; omega⟩
  have h1 : PD.szL (Param.pd p) ≤ PD.szL (params.flatMap Param.pd) := szL_mem (f := Param.pd) hp
  obtain ⟨name, ⟨a, b, c, d⟩⟩ := p
  have h2 : PD.szL (Param.pd ⟨name, ⟨a, b, c, d⟩⟩) = (PD.lit (.string name)).sz + PD.szL (Ty.pd ⟨a, b, c, d⟩) := by
    rw [Param.pd_mk, Ty.pd_mk]
    simp only [PD.szL]
  show PD.szL (Ty.pd ⟨a, b, c, d⟩) ≤ _
  omega
set_option maxHeartbeats 1600000 in
theorem specParamsOf_ok (f : FuncType) (hwf : PD.wfL (FuncType.pd f)) (hsz : PD.szL (FuncType.pd f) ≤ 1048576) : FnCR 59 (FuncType.pd f) (.row 4 ((paramsRes f).flatMap Ty.pd)) := by
  intro B cs w hB h
  obtain ⟨hl, hz, hr⟩ := func_sz hsz
  obtain ⟨params, ⟨result_kind, result_name, result_labels, result_kids⟩, async⟩ := f
  obtain ⟨paramsV, result_labelsV, result_kidsV, rfl, r_params, r_result_labels, r_result_kids⟩ := FuncType.open_ h
  have R_params := Lib.hid r_params
  clear r_params
  have R_result_labels := Lib.hid r_result_labels
  clear r_result_labels
  have R_result_kids := Lib.hid r_result_kids
  clear r_result_kids
  obtain ⟨A, n, c, rfl⟩ := R_params.out.form
  have HW := Lib.hid hwf
  have HL := Lib.hid hl
  have HZ := Lib.hid hz
  have HR := Lib.hid hr
  clear h hwf hsz hl hz hr
  go_enter Try.func59, Try.ntmps59
  go_wp2_with fail
  obtain ⟨w0, hw0⟩ : ∃ W, W = w.alloc (.cells #[.slice A n c, .int .i64 result_kind, .string result_name, result_labelsV, result_kidsV, .bool async] 71) := ⟨_, rfl⟩
  rw [← hw0]
  have bA : Blk w0 w.heap.size 71 #[.slice A n c, .int .i64 result_kind, .string result_name, result_labelsV, result_kidsV, .bool async] := by rw [hw0]; exact Blk.new w _ _
  have hB0 : Below w.heap.size w w0 := by rw [hw0]; exact (Below.refl _ _).alloc (Nat.le_refl _) _
  clear hw0
  have RC : Hid (∀ W, Below w.heap.size w W → RepC W B (FuncType.pd ⟨params, ⟨result_kind, result_name, result_labels, result_kids⟩, async⟩) [.slice A n c, .int .i64 result_kind, .string result_name, result_labelsV, result_kidsV, .bool async]) := fun W hW => FuncType.close_ (R_params.out.below (hW.mono hB)) (R_result_labels.out.below (hW.mono hB)) (R_result_kids.out.below (hW.mono hB))
  refine (specFunc_any ⟨params, ⟨result_kind, result_name, result_labels, result_kids⟩, async⟩ (B := B) (cs := [.slice A n c, .int .i64 result_kind, .string result_name, result_labelsV, result_kidsV, .bool async]) (Nat.le_trans hB hB0.size) HW.out (RC.out w0 hB0)).mono ?_
  rintro e w1 ⟨rfl, hb1⟩
  have hB1 := hB0.trans (hb1.mono hB0.size)
  have bA1 := bA.step hb1
  clear bA
  cases hok : funcB ⟨params, ⟨result_kind, result_name, result_labels, result_kids⟩, async⟩
  · have HF : Hid (paramsRes ⟨params, ⟨result_kind, result_name, result_labels, result_kids⟩, async⟩ = []) := by show _ = _; rw [paramsRes, hok]; rfl
    clear hok
    go_wp2_with fail
    go_ret
    rw [HF.out]
    exact ⟨_, rfl, (Grow.made (e := 51) (sz := 4) (cur := #[]) (cap := 0) hB1 (Nat.le_refl _) hB1.size (by simp) (by simp)).done, hB1.alloc hB1.size _⟩
  have HF : Hid (paramsRes ⟨params, ⟨result_kind, result_name, result_labels, result_kids⟩, async⟩ = typs params) := by show _ = _; rw [paramsRes, hok]; rfl
  have HSZ := Lib.hid (paramsRes_sz hok)
  clear hok
  have a_params : w1.cell? ⟨w.heap.size, 0, none⟩ = some (.slice A n c) := bA1.cell 0
  have a_result_kind : w1.cell? ⟨w.heap.size, 1, none⟩ = some (.int .i64 result_kind) := bA1.cell 1
  have a_result_name : w1.cell? ⟨w.heap.size, 2, none⟩ = some (.string result_name) := bA1.cell 2
  have a_result_labels : w1.cell? ⟨w.heap.size, 3, none⟩ = some (result_labelsV) := bA1.cell 3
  have a_result_kids : w1.cell? ⟨w.heap.size, 4, none⟩ = some (result_kidsV) := bA1.cell 4
  have a_async : w1.cell? ⟨w.heap.size, 5, none⟩ = some (.bool async) := bA1.cell 5
  go_wp2_with fail
  refine (specParams_any ⟨params, ⟨result_kind, result_name, result_labels, result_kids⟩, async⟩ HL.out HZ.out (B := B) (cs := [.slice A n c, .int .i64 result_kind, .string result_name, result_labelsV, result_kidsV, .bool async]) (Nat.le_trans hB hB1.size) (RC.out w1 hB1)).mono ?_
  rintro e w2 ⟨u, rfl, hu, hb2⟩
  have HU := Lib.hid (hu.more hB1.size (Nat.le_refl _) (Nat.le_refl _))
  clear hu
  go_wp2_with fail
  go_ret
  rw [HF.out]
  exact ⟨_, rfl, HU.out, hB1.trans (hb2.mono hB1.size)⟩
set_option maxHeartbeats 1600000 in
theorem implParamsOf_ok (f : FuncType) (hwf : PD.wfL (FuncType.pd f)) (hsz : PD.szL (FuncType.pd f) ≤ 1048576) : FnCR 61 (FuncType.pd f) (.row 4 ((paramsRes f).flatMap Ty.pd)) := by
  intro B cs w hB h
  obtain ⟨hl, hz, hr⟩ := func_sz hsz
  obtain ⟨params, ⟨result_kind, result_name, result_labels, result_kids⟩, async⟩ := f
  obtain ⟨paramsV, result_labelsV, result_kidsV, rfl, r_params, r_result_labels, r_result_kids⟩ := FuncType.open_ h
  have R_params := Lib.hid r_params
  clear r_params
  have R_result_labels := Lib.hid r_result_labels
  clear r_result_labels
  have R_result_kids := Lib.hid r_result_kids
  clear r_result_kids
  obtain ⟨A, n, c, rfl⟩ := R_params.out.form
  have HW := Lib.hid hwf
  have HL := Lib.hid hl
  have HZ := Lib.hid hz
  have HR := Lib.hid hr
  clear h hwf hsz hl hz hr
  go_enter Try.func61, Try.ntmps61
  go_wp2_with fail
  obtain ⟨w0, hw0⟩ : ∃ W, W = w.alloc (.cells #[.slice A n c, .int .i64 result_kind, .string result_name, result_labelsV, result_kidsV, .bool async] 71) := ⟨_, rfl⟩
  rw [← hw0]
  have bA : Blk w0 w.heap.size 71 #[.slice A n c, .int .i64 result_kind, .string result_name, result_labelsV, result_kidsV, .bool async] := by rw [hw0]; exact Blk.new w _ _
  have hB0 : Below w.heap.size w w0 := by rw [hw0]; exact (Below.refl _ _).alloc (Nat.le_refl _) _
  clear hw0
  have RC : Hid (∀ W, Below w.heap.size w W → RepC W B (FuncType.pd ⟨params, ⟨result_kind, result_name, result_labels, result_kids⟩, async⟩) [.slice A n c, .int .i64 result_kind, .string result_name, result_labelsV, result_kidsV, .bool async]) := fun W hW => FuncType.close_ (R_params.out.below (hW.mono hB)) (R_result_labels.out.below (hW.mono hB)) (R_result_kids.out.below (hW.mono hB))
  refine (implFunc_any ⟨params, ⟨result_kind, result_name, result_labels, result_kids⟩, async⟩ HL.out (fun p hp => parts_sz (HZ.out p hp)) (parts_sz HR.out) (B := B) (cs := [.slice A n c, .int .i64 result_kind, .string result_name, result_labelsV, result_kidsV, .bool async]) (Nat.le_trans hB hB0.size) HW.out (RC.out w0 hB0)).mono ?_
  rintro e w1 ⟨rfl, hb1⟩
  have hB1 := hB0.trans (hb1.mono hB0.size)
  have bA1 := bA.step hb1
  clear bA
  cases hok : funcB ⟨params, ⟨result_kind, result_name, result_labels, result_kids⟩, async⟩
  · have HF : Hid (paramsRes ⟨params, ⟨result_kind, result_name, result_labels, result_kids⟩, async⟩ = []) := by show _ = _; rw [paramsRes, hok]; rfl
    clear hok
    go_wp2_with fail
    go_ret
    rw [HF.out]
    exact ⟨_, rfl, lv_none hB1.size, hB1⟩
  have HF : Hid (paramsRes ⟨params, ⟨result_kind, result_name, result_labels, result_kids⟩, async⟩ = typs params) := by show _ = _; rw [paramsRes, hok]; rfl
  have HSZ := Lib.hid (paramsRes_sz hok)
  clear hok
  have a_params : w1.cell? ⟨w.heap.size, 0, none⟩ = some (.slice A n c) := bA1.cell 0
  have a_result_kind : w1.cell? ⟨w.heap.size, 1, none⟩ = some (.int .i64 result_kind) := bA1.cell 1
  have a_result_name : w1.cell? ⟨w.heap.size, 2, none⟩ = some (.string result_name) := bA1.cell 2
  have a_result_labels : w1.cell? ⟨w.heap.size, 3, none⟩ = some (result_labelsV) := bA1.cell 3
  have a_result_kids : w1.cell? ⟨w.heap.size, 4, none⟩ = some (result_kidsV) := bA1.cell 4
  have a_async : w1.cell? ⟨w.heap.size, 5, none⟩ = some (.bool async) := bA1.cell 5
  go_wp2_with fail
  refine (implParams_any ⟨params, ⟨result_kind, result_name, result_labels, result_kids⟩, async⟩ HL.out (B := B) (cs := [.slice A n c, .int .i64 result_kind, .string result_name, result_labelsV, result_kidsV, .bool async]) (Nat.le_trans hB hB1.size) (RC.out w1 hB1)).mono ?_
  rintro e w2 ⟨v2, rfl, hv2, hb2⟩
  have hB2 := hB1.trans (hb2.mono hB1.size)
  have HV2 := Lib.hid hv2
  clear hv2
  go_wp2_with fail
  refine (copyTypes_all (typs params) w2.heap.size v2 w2 (Nat.le_refl _) (Nat.le_trans HSZ.out (by omega)) HV2.out).mono ?_
  rintro e w3 ⟨u, rfl, hu, hb3⟩
  have HU := Lib.hid (hu.more hB2.size (Nat.le_refl _) (Nat.le_refl _))
  clear hu
  go_wp2_with fail
  go_ret
  rw [HF.out]
  exact ⟨_, rfl, HU.out, hB2.trans (hb3.mono hB2.size)⟩
end Go.Proofs.Ytmmeaakhikcigaa

