/-
  The cases of a type, copied (by program: gen_caok.py).
-/
import Derived.Test.YtmmeaakhikcigaaOwnSpec
import Derived.Test.YtmmeaakhikcigaaLayParts
namespace Go.Proofs.Ytmmeaakhikcigaa
open Go.RowKit
set_option linter.unusedVariables false
set_option linter.unusedSimpArgs false
set_option linter.unnecessarySimpa false
theorem szL_strs : ∀ {ls : List ByteArray}, (∀ s ∈ ls, s.size ≤ 12) → PD.szL (ls.flatMap strC) ≤ 12 * ls.length
  | [], _ => by simp [PD.szL]
  | x :: r, h => by
    have h1 := h x (by simp)
    have h2 := szL_strs (ls := r) fun s hs => h s (by simp [hs])
    rw [List.flatMap_cons, szL_append, szL_strC, List.length_cons]
    omega
theorem szL_kids : ∀ {ts : List Ty}, (∀ t ∈ ts, PD.szL (Ty.pd t) + 1 ≤ 222 * t.parts) → PD.szL (ts.flatMap Ty.pd) + ts.length ≤ 222 * Ty.partsL ts
  | [], _ => by simp [PD.szL, Ty.partsL]
  | x :: r, h => by
    have h1 := h x (by simp)
    have h2 := szL_kids (ts := r) fun t ht => h t (by simp [ht])
    rw [List.flatMap_cons, szL_append, Ty.partsL, List.length_cons]
    omega
theorem shapes_sz : ∀ t : Ty, t.shapes = true → PD.szL (Ty.pd t) + 1 ≤ 222 * t.parts := Ty.rec_kids fun kind name labels kids ih h => by
  rw [Ty.shapes, Bool.and_eq_true] at h
  obtain ⟨h1, h2⟩ := h
  rw [shape1, Bool.and_eq_true, Bool.and_eq_true] at h1
  obtain ⟨⟨ha, hb⟩, _⟩ := h1
  have hn : name.size ≤ 12 := by
    split at ha
    · exact (nameOk_size ha).2
    · have := of_decide_eq_true ha; omega
  have hl : labels.length ≤ 16 ∧ PD.szL (labels.flatMap strC) ≤ 192 := by
    split at hb
    · rw [labelsOk, Bool.and_eq_true, Bool.and_eq_true] at hb
      obtain ⟨⟨h3, h4⟩, _⟩ := hb
      have h5 := inB_iff.1 h3
      have h6 := szL_strs (ls := labels) fun s hs => (nameOk_size (List.all_eq_true.1 h4 s hs)).2
      omega
    · have h3 := of_decide_eq_true hb
      have : labels = [] := List.eq_nil_of_length_eq_zero h3
      subst this
      simp [PD.szL]
  rw [shapesL_eq] at h2
  have h3 := szL_kids (ts := kids) fun t ht => ih t ht (List.all_eq_true.1 h2 t ht)
  have h4 := partsL_len kids
  rw [Ty.parts]
  have e1 : (PD.lit (.int .i64 kind)).sz = 0 := by rw [PD.sz]; intro s e; cases e
  have e2 : (PD.lit (.string name)).sz = name.size := by rw [PD.sz]
  have e3 := sz_row strC_length (by decide) labels
  have e4 := sz_row Ty.pd_length (by decide) kids
  rw [Ty.pd_mk]
  simp only [PD.szL]
  omega
def Ty.casesRes (t : Ty) : List Ty := if typeOk t then t.cases else []
theorem cases_sz {t : Ty} (h : typeOk t = true) : (PD.row 4 (t.cases.flatMap Ty.pd)).sz ≤ 10000 := by
  have hs := typeOk_shapes h
  simp only [typeOk, Bool.and_eq_true, decide_eq_true_iff] at h
  obtain ⟨kind, name, labels, kids⟩ := t
  have h1 : ∀ x ∈ Ty.cases ⟨kind, name, labels, kids⟩, PD.szL (Ty.pd x) + 1 ≤ 222 * x.parts := fun x hx => shapes_sz x (shapes_cases hs x hx)
  have h2 := szL_kids h1
  have h3 := cases_parts (kind := kind) (name := name) (labels := labels) (kids := kids)
  have h4 := partsL_len (Ty.cases ⟨kind, name, labels, kids⟩)
  have h5 := h.1.2
  rw [Ty.parts] at h5
  rw [sz_row Ty.pd_length (by decide)]
  omega
theorem casesRes_cnt (t : Ty) : (PD.row 4 ((Ty.casesRes t).flatMap Ty.pd)).cnt ≤ 1099511627775 := by
  have h1 := PD.cnt_row_le 4 ((Ty.casesRes t).flatMap Ty.pd) (row_fit (ts := Ty.casesRes t) Ty.pd_length (by decide) (by decide) (fun t _ => Ty.fit t))
  have h2 : (PD.row 4 ((Ty.casesRes t).flatMap Ty.pd)).sz ≤ 10000 := by
    rw [Ty.casesRes]
    split
    · rename_i h; exact cases_sz h
    · rw [sz_row Ty.pd_length (by decide)]; simp [PD.szL]
  omega

set_option maxHeartbeats 1600000 in
theorem specCasesOf_ok (t : Ty) (hwf : PD.wfL (Ty.pd t)) (hsz : PD.szL (Ty.pd t) ≤ 1048576) : FnCR 36 (Ty.pd t) (.row 4 ((Ty.casesRes t).flatMap Ty.pd)) := by
  intro B cs w hB h
  have hp := parts_sz hsz
  obtain ⟨kind, name, labels, kids⟩ := t
  obtain ⟨labelsV, kidsV, rfl, r_labels, r_kids⟩ := Ty.open_ h
  have R_labels := Lib.hid r_labels
  clear r_labels
  have R_kids := Lib.hid r_kids
  clear r_kids
  have HW := Lib.hid hwf
  have HP := Lib.hid hp
  clear h hwf hsz hp
  go_enter Try.func36, Try.ntmps36
  go_wp2_with fail
  obtain ⟨w0, hw0⟩ : ∃ W, W = w.alloc (.cells #[.int .i64 kind, .string name, labelsV, kidsV] 51) := ⟨_, rfl⟩
  rw [← hw0]
  have bA : Blk w0 w.heap.size 51 #[.int .i64 kind, .string name, labelsV, kidsV] := by rw [hw0]; exact Blk.new w _ _
  have hB0 : Below w.heap.size w w0 := by rw [hw0]; exact (Below.refl _ _).alloc (Nat.le_refl _) _
  clear hw0
  have RC : Hid (RepC w0 B (Ty.pd ⟨kind, name, labels, kids⟩) [.int .i64 kind, .string name, labelsV, kidsV]) := Ty.close_ (R_labels.out.below (hB0.mono hB)) (R_kids.out.below (hB0.mono hB))
  have hBs := Nat.le_trans hB hB0.size
  refine (specTypeOk_any ⟨kind, name, labels, kids⟩ (B := B) (cs := [.int .i64 kind, .string name, labelsV, kidsV]) hBs HW.out RC.out).mono ?_
  rintro e w1 ⟨rfl, hb1⟩
  have hB1 := hB0.trans (hb1.mono hB0.size)
  have bA1 := bA.step hb1
  clear bA
  cases hok : typeOk ⟨kind, name, labels, kids⟩
  · have HF : Hid (Ty.casesRes ⟨kind, name, labels, kids⟩ = []) := by show _ = _; rw [Ty.casesRes, hok]; rfl
    clear hok
    go_wp2_with fail
    go_ret
    rw [HF.out]
    exact ⟨_, rfl, (Grow.made (e := 51) (sz := 4) (cur := #[]) (cap := 0) hB1 (Nat.le_refl _) hB1.size (by simp) (by simp)).done, hB1.alloc hB1.size _⟩
  have HF : Hid (Ty.casesRes ⟨kind, name, labels, kids⟩ = Ty.cases ⟨kind, name, labels, kids⟩) := by show _ = _; rw [Ty.casesRes, hok]; rfl
  have HS := Lib.hid (typeOk_shapes hok)
  have HZ := Lib.hid (cases_sz hok)
  clear hok
  have a1_0 : w1.cell? ⟨w.heap.size, 0, none⟩ = some (.int .i64 kind) := bA1.cell 0
  have a1_1 : w1.cell? ⟨w.heap.size, 1, none⟩ = some (.string name) := bA1.cell 1
  have a1_2 : w1.cell? ⟨w.heap.size, 2, none⟩ = some labelsV := bA1.cell 2
  have a1_3 : w1.cell? ⟨w.heap.size, 3, none⟩ = some kidsV := bA1.cell 3
  go_wp2_with fail
  refine (specCases_any ⟨kind, name, labels, kids⟩ (B := B) (cs := [.int .i64 kind, .string name, labelsV, kidsV]) (Nat.le_trans hBs hb1.size) HW.out HS.out (RC.out.below (hb1.mono hBs))).mono ?_
  rintro e w2 ⟨v2, rfl, hv2, hb2⟩
  have hB2 := hB1.trans (hb2.mono hB1.size)
  have HV2 := Lib.hid hv2
  clear hv2
  go_wp2_with fail
  refine (ownAll_all (Ty.cases ⟨kind, name, labels, kids⟩) w2.heap.size v2 w2 (Nat.le_refl _) (Nat.le_trans HZ.out (by omega)) HV2.out).mono ?_
  rintro e w3 ⟨u, rfl, hu, hb3⟩
  have HU := Lib.hid (hu.more hB2.size (Nat.le_refl _) (Nat.le_refl _))
  clear hu
  go_wp2_with fail
  go_ret
  rw [HF.out]
  exact ⟨_, rfl, HU.out, hB2.trans (hb3.mono hB2.size)⟩

set_option maxHeartbeats 1600000 in
theorem implCasesOf_ok (t : Ty) (hwf : PD.wfL (Ty.pd t)) (hsz : PD.szL (Ty.pd t) ≤ 1048576) : FnCR 37 (Ty.pd t) (.row 4 ((Ty.casesRes t).flatMap Ty.pd)) := by
  intro B cs w hB h
  have hp := parts_sz hsz
  obtain ⟨kind, name, labels, kids⟩ := t
  obtain ⟨labelsV, kidsV, rfl, r_labels, r_kids⟩ := Ty.open_ h
  have R_labels := Lib.hid r_labels
  clear r_labels
  have R_kids := Lib.hid r_kids
  clear r_kids
  have HW := Lib.hid hwf
  have HP := Lib.hid hp
  clear h hwf hsz hp
  go_enter Try.func37, Try.ntmps37
  go_wp2_with fail
  obtain ⟨w0, hw0⟩ : ∃ W, W = w.alloc (.cells #[.int .i64 kind, .string name, labelsV, kidsV] 51) := ⟨_, rfl⟩
  rw [← hw0]
  have bA : Blk w0 w.heap.size 51 #[.int .i64 kind, .string name, labelsV, kidsV] := by rw [hw0]; exact Blk.new w _ _
  have hB0 : Below w.heap.size w w0 := by rw [hw0]; exact (Below.refl _ _).alloc (Nat.le_refl _) _
  clear hw0
  have RC : Hid (RepC w0 B (Ty.pd ⟨kind, name, labels, kids⟩) [.int .i64 kind, .string name, labelsV, kidsV]) := Ty.close_ (R_labels.out.below (hB0.mono hB)) (R_kids.out.below (hB0.mono hB))
  have hBs := Nat.le_trans hB hB0.size
  refine (implTypeOk_any ⟨kind, name, labels, kids⟩ (B := B) (cs := [.int .i64 kind, .string name, labelsV, kidsV]) hBs HW.out HP.out RC.out).mono ?_
  rintro e w1 ⟨rfl, hb1⟩
  have hB1 := hB0.trans (hb1.mono hB0.size)
  have bA1 := bA.step hb1
  clear bA
  cases hok : typeOk ⟨kind, name, labels, kids⟩
  · have HF : Hid (Ty.casesRes ⟨kind, name, labels, kids⟩ = []) := by show _ = _; rw [Ty.casesRes, hok]; rfl
    clear hok
    go_wp2_with fail
    go_ret
    rw [HF.out]
    exact ⟨_, rfl, lv_none hB1.size, hB1⟩
  have HF : Hid (Ty.casesRes ⟨kind, name, labels, kids⟩ = Ty.cases ⟨kind, name, labels, kids⟩) := by show _ = _; rw [Ty.casesRes, hok]; rfl
  have HS := Lib.hid (typeOk_shapes hok)
  have HZ := Lib.hid (cases_sz hok)
  clear hok
  have a1_0 : w1.cell? ⟨w.heap.size, 0, none⟩ = some (.int .i64 kind) := bA1.cell 0
  have a1_1 : w1.cell? ⟨w.heap.size, 1, none⟩ = some (.string name) := bA1.cell 1
  have a1_2 : w1.cell? ⟨w.heap.size, 2, none⟩ = some labelsV := bA1.cell 2
  have a1_3 : w1.cell? ⟨w.heap.size, 3, none⟩ = some kidsV := bA1.cell 3
  go_wp2_with fail
  refine (implCases_any ⟨kind, name, labels, kids⟩ (B := B) (cs := [.int .i64 kind, .string name, labelsV, kidsV]) (Nat.le_trans hBs hb1.size) HW.out HS.out (RC.out.below (hb1.mono hBs))).mono ?_
  rintro e w2 ⟨v2, rfl, hv2, hb2⟩
  have hB2 := hB1.trans (hb2.mono hB1.size)
  have HV2 := Lib.hid hv2
  clear hv2
  go_wp2_with fail
  refine (copyTypes_all (Ty.cases ⟨kind, name, labels, kids⟩) w2.heap.size v2 w2 (Nat.le_refl _) (Nat.le_trans HZ.out (by omega)) HV2.out).mono ?_
  rintro e w3 ⟨u, rfl, hu, hb3⟩
  have HU := Lib.hid (hu.more hB2.size (Nat.le_refl _) (Nat.le_refl _))
  clear hu
  go_wp2_with fail
  go_ret
  rw [HF.out]
  exact ⟨_, rfl, HU.out, hB2.trans (hb3.mono hB2.size)⟩

end Go.Proofs.Ytmmeaakhikcigaa

