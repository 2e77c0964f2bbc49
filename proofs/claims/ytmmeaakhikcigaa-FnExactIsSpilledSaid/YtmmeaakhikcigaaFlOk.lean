/-
  The flat kinds of a type, of types, and whether they are too many (by program: gen_flok.py).
-/
import Derived.Test.YtmmeaakhikcigaaFlImpl
import Derived.Test.YtmmeaakhikcigaaLayParts
namespace Go.Proofs.Ytmmeaakhikcigaa
open Go.RowKit
set_option linter.unusedVariables false
set_option linter.unusedSimpArgs false
set_option linter.unnecessarySimpa false
set_option maxRecDepth 16000

def Ty.flatRes (t : Ty) : List Int := if typeOk t then t.flat else []
def flatAllRes (ts : List Ty) : List Int := if typesOkB ts then Ty.flatL ts else []
def isSpilledB (ts : List Ty) : Bool := typesOkB ts && decide (8 < (Ty.flatL ts).length)
theorem typeOk_flat {t : Ty} (h : typeOk t = true) : t.flat.length ≤ 48 := by
  simp only [typeOk, Bool.and_eq_true, decide_eq_true_iff] at h
  have := (flat_ok t).2
  omega
theorem flatL_many : ∀ {ts : List Ty}, (∀ t ∈ ts, t.flat.length ≤ 48) → (Ty.flatL ts).length ≤ 48 * ts.length
  | [], _ => by simp [Ty.flatL]
  | t :: r, h => by
    have h1 := h t (by simp)
    have h2 := flatL_many (ts := r) fun x hx => h x (by simp [hx])
    rw [Ty.flatL, List.length_append, List.length_cons]
    omega
theorem flatRes_cnt (t : Ty) : (PD.row 1 ((t.flatRes).flatMap intC)).cnt ≤ 1099511627775 := by
  have h : (t.flatRes).length ≤ 48 := by
    rw [Ty.flatRes]
    split
    · rename_i h; exact typeOk_flat h
    · simp
  have := ints_cnt h
  omega
theorem flatAllRes_cnt (ts : List Ty) : (PD.row 1 ((flatAllRes ts).flatMap intC)).cnt ≤ 1099511627775 := by
  have h : (flatAllRes ts).length ≤ 1152 := by
    rw [flatAllRes]
    split
    · rename_i h
      have h1 := flatL_many fun t ht => typeOk_flat (typesOk_mem h t ht)
      rw [typesOkB, Bool.and_eq_true, decide_eq_true_iff] at h
      omega
    · simp
  have := ints_cnt h
  omega
theorem owns_flat {w w' : World} {u : Value} {n : Nat} {xs : List Int} (h : w'.ownsRow w.heap.size 2 1 u n (i64s xs)) : Lv w' w.heap.size w'.heap.size (.row 1 (xs.flatMap intC)) u := lv_ints h

set_option maxHeartbeats 1600000 in
theorem specFlatOf_ok (t : Ty) (hwf : PD.wfL (Ty.pd t)) (hsz : PD.szL (Ty.pd t) ≤ 1048576) : FnCR 47 (Ty.pd t) (.row 1 ((Ty.flatRes t).flatMap intC)) := by
  intro B cs w hB h
  have hp := parts_sz hsz
  obtain ⟨kind, name, labels, kids⟩ := t
  obtain ⟨labelsV, kidsV, rfl, r_labels, r_kids⟩ := Ty.open_ h
  have R_labels := Lib.hid r_labels
  clear r_labels
  have R_kids := Lib.hid r_kids
  clear r_kids
  have HW := Lib.hid hwf
  have HP := Lib.hid hp
  clear h hwf hsz hp
  go_enter Try.func47, Try.ntmps47
  go_wp2_with fail
  obtain ⟨w0, hw0⟩ : ∃ W, W = w.alloc (.cells #[.int .i64 kind, .string name, labelsV, kidsV] 51) := ⟨_, rfl⟩
  rw [← hw0]
  have bA : Blk w0 w.heap.size 51 #[.int .i64 kind, .string name, labelsV, kidsV] := by rw [hw0]; exact Blk.new w _ _
  have hB0 : Below w.heap.size w w0 := by rw [hw0]; exact (Below.refl _ _).alloc (Nat.le_refl _) _
  clear hw0
  have RC : Hid (RepC w0 B (Ty.pd ⟨kind, name, labels, kids⟩) [.int .i64 kind, .string name, labelsV, kidsV]) := Ty.close_ (R_labels.out.below (hB0.mono hB)) (R_kids.out.below (hB0.mono hB))
  have hBs := Nat.le_trans hB hB0.size
  refine (specTypeOk_any ⟨kind, name, labels, kids⟩ (B := B) (cs := [.int .i64 kind, .string name, labelsV, kidsV]) hBs HW.out RC.out).mono ?_
  rintro e w1 ⟨rfl, hb1⟩
  have hB1 := hB0.trans (hb1.mono hB0.size)
  have bA1 := bA.step hb1
  clear bA
  cases hok : typeOk ⟨kind, name, labels, kids⟩
  · have HF : Hid (Ty.flatRes ⟨kind, name, labels, kids⟩ = []) := by show _ = _; rw [Ty.flatRes, hok]; rfl
    clear hok
    go_wp2_with fail
    go_ret
    rw [HF.out]
    exact ⟨_, rfl, owns_flat (xs := []) (World.ownsRow_made w1 #[] 0 hB1.size (by simp) (by simp)), hB1.alloc hB1.size _⟩
  have HF : Hid (Ty.flatRes ⟨kind, name, labels, kids⟩ = (Ty.mk kind name labels kids).flat) := by show _ = _; rw [Ty.flatRes, hok]; rfl
  have HS := Lib.hid (typeOk_shapes hok)
  clear hok
  have a1_0 : w1.cell? ⟨w.heap.size, 0, none⟩ = some (.int .i64 kind) := bA1.cell 0
  have a1_1 : w1.cell? ⟨w.heap.size, 1, none⟩ = some (.string name) := bA1.cell 1
  have a1_2 : w1.cell? ⟨w.heap.size, 2, none⟩ = some labelsV := bA1.cell 2
  have a1_3 : w1.cell? ⟨w.heap.size, 3, none⟩ = some kidsV := bA1.cell 3
  go_wp2_with fail
  refine (specFlat_all ⟨kind, name, labels, kids⟩ B [.int .i64 kind, .string name, labelsV, kidsV] w1 HP.out HS.out HW.out (Nat.le_trans hBs hb1.size) (RC.out.below (hb1.mono hBs))).mono ?_
  rintro e w2 ⟨u, rfl, hu, hb2⟩
  have HU := Lib.hid (owns_flat (owns_base hu hB1.size))
  clear hu
  go_wp2_with fail
  go_ret
  rw [HF.out]
  exact ⟨_, rfl, HU.out, hB1.trans (hb2.mono hB1.size)⟩

set_option maxHeartbeats 1600000 in
theorem implFlatOf_ok (t : Ty) (hwf : PD.wfL (Ty.pd t)) (hsz : PD.szL (Ty.pd t) ≤ 1048576) : FnCR 48 (Ty.pd t) (.row 1 ((Ty.flatRes t).flatMap intC)) := by
  intro B cs w hB h
  have hp := parts_sz hsz
  obtain ⟨kind, name, labels, kids⟩ := t
  obtain ⟨labelsV, kidsV, rfl, r_labels, r_kids⟩ := Ty.open_ h
  have R_labels := Lib.hid r_labels
  clear r_labels
  have R_kids := Lib.hid r_kids
  clear r_kids
  have HW := Lib.hid hwf
  have HP := Lib.hid hp
  clear h hwf hsz hp
  go_enter Try.func48, Try.ntmps48
  go_wp2_with fail
  obtain ⟨w0, hw0⟩ : ∃ W, W = w.alloc (.cells #[.int .i64 kind, .string name, labelsV, kidsV] 51) := ⟨_, rfl⟩
  rw [← hw0]
  have bA : Blk w0 w.heap.size 51 #[.int .i64 kind, .string name, labelsV, kidsV] := by rw [hw0]; exact Blk.new w _ _
  have hB0 : Below w.heap.size w w0 := by rw [hw0]; exact (Below.refl _ _).alloc (Nat.le_refl _) _
  clear hw0
  have RC : Hid (RepC w0 B (Ty.pd ⟨kind, name, labels, kids⟩) [.int .i64 kind, .string name, labelsV, kidsV]) := Ty.close_ (R_labels.out.below (hB0.mono hB)) (R_kids.out.below (hB0.mono hB))
  have hBs := Nat.le_trans hB hB0.size
  refine (implTypeOk_any ⟨kind, name, labels, kids⟩ (B := B) (cs := [.int .i64 kind, .string name, labelsV, kidsV]) hBs HW.out HP.out RC.out).mono ?_
  rintro e w1 ⟨rfl, hb1⟩
  have hB1 := hB0.trans (hb1.mono hB0.size)
  have bA1 := bA.step hb1
  clear bA
  cases hok : typeOk ⟨kind, name, labels, kids⟩
  · have HF : Hid (Ty.flatRes ⟨kind, name, labels, kids⟩ = []) := by show _ = _; rw [Ty.flatRes, hok]; rfl
    clear hok
    go_wp2_with fail
    go_ret
    rw [HF.out]
    exact ⟨_, rfl, lv_none hB1.size, hB1⟩
  have HF : Hid (Ty.flatRes ⟨kind, name, labels, kids⟩ = (Ty.mk kind name labels kids).flat) := by show _ = _; rw [Ty.flatRes, hok]; rfl
  have HS := Lib.hid (typeOk_shapes hok)
  clear hok
  have a1_0 : w1.cell? ⟨w.heap.size, 0, none⟩ = some (.int .i64 kind) := bA1.cell 0
  have a1_1 : w1.cell? ⟨w.heap.size, 1, none⟩ = some (.string name) := bA1.cell 1
  have a1_2 : w1.cell? ⟨w.heap.size, 2, none⟩ = some labelsV := bA1.cell 2
  have a1_3 : w1.cell? ⟨w.heap.size, 3, none⟩ = some kidsV := bA1.cell 3
  go_wp2_with fail
  refine (implFlat_all ⟨kind, name, labels, kids⟩ B [.int .i64 kind, .string name, labelsV, kidsV] w1 HP.out HS.out HW.out (Nat.le_trans hBs hb1.size) (RC.out.below (hb1.mono hBs))).mono ?_
  rintro e w2 ⟨u, rfl, hu, hb2⟩
  have HU := Lib.hid (owns_flat (owns_base hu hB1.size))
  clear hu
  go_wp2_with fail
  go_ret
  rw [HF.out]
  exact ⟨_, rfl, HU.out, hB1.trans (hb2.mono hB1.size)⟩

set_option maxHeartbeats 1600000 in
theorem specFlatOfAll_ok (ts : List Ty) (hwf : (PD.row 4 (ts.flatMap Ty.pd)).wf) (hsz : (PD.row 4 (ts.flatMap Ty.pd)).sz ≤ 1048576) : FnRR 54 (.row 4 (ts.flatMap Ty.pd)) (.row 1 ((flatAllRes ts).flatMap intC)) := by
  intro B v w hB h
  obtain ⟨A, n, c, rfl⟩ := h.form
  have HR := Lib.hid h
  have HG := Lib.hid (fun h => good_of hwf hsz h)
  rw [PD.wf] at hwf
  have HW := Lib.hid (wfL_flatMap.1 hwf)
  have HP : Hid (∀ t ∈ ts, t.parts ≤ 4194304) := fun t ht => by have := parts_mem ht; have := partsL_le ts; omega
  clear h hwf hsz
  go_enter Try.func54, Try.ntmps54
  go_wp2_with fail
  refine (specTypesOk_any hB HW.out HR.out).mono ?_
  rintro e w1 ⟨rfl, hB1⟩
  cases hok : typesOkB ts
  · have HF : Hid (flatAllRes ts = []) := by show _ = _; rw [flatAllRes, hok]; rfl
    clear hok
    go_wp2_with fail
    go_ret
    rw [HF.out]
    exact ⟨_, rfl, owns_flat (xs := []) (World.ownsRow_made w1 #[] 0 hB1.size (by simp) (by simp)), hB1.alloc hB1.size _⟩
  have HF : Hid (flatAllRes ts = Ty.flatL ts) := by show _ = _; rw [flatAllRes, hok]; rfl
  have HG1 := Lib.hid (HG.out hok)
  clear hok HG
  go_wp2_with fail
  refine (specAll_any (fun t _ => specFlat_all t) HG1.out (Nat.le_trans hB hB1.size) (HR.out.below (hB1.mono hB))).mono ?_
  rintro e w2 ⟨u, rfl, hu, hb2⟩
  have HU := Lib.hid (owns_flat (owns_base hu hB1.size))
  clear hu
  go_wp2_with fail
  go_ret
  rw [HF.out]
  exact ⟨_, rfl, HU.out, hB1.trans (hb2.mono hB1.size)⟩

set_option maxHeartbeats 1600000 in
theorem implFlatOfAll_ok (ts : List Ty) (hwf : (PD.row 4 (ts.flatMap Ty.pd)).wf) (hsz : (PD.row 4 (ts.flatMap Ty.pd)).sz ≤ 1048576) : FnRR 55 (.row 4 (ts.flatMap Ty.pd)) (.row 1 ((flatAllRes ts).flatMap intC)) := by
  intro B v w hB h
  obtain ⟨A, n, c, rfl⟩ := h.form
  have HR := Lib.hid h
  have HG := Lib.hid (fun h => good_of hwf hsz h)
  rw [PD.wf] at hwf
  have HW := Lib.hid (wfL_flatMap.1 hwf)
  have HP : Hid (∀ t ∈ ts, t.parts ≤ 4194304) := fun t ht => by have := parts_mem ht; have := partsL_le ts; omega
  clear h hwf hsz
  go_enter Try.func55, Try.ntmps55
  go_wp2_with fail
  refine (implTypesOk_any hB HW.out HP.out HR.out).mono ?_
  rintro e w1 ⟨rfl, hB1⟩
  cases hok : typesOkB ts
  · have HF : Hid (flatAllRes ts = []) := by show _ = _; rw [flatAllRes, hok]; rfl
    clear hok
    go_wp2_with fail
    go_ret
    rw [HF.out]
    exact ⟨_, rfl, lv_none hB1.size, hB1⟩
  have HF : Hid (flatAllRes ts = Ty.flatL ts) := by show _ = _; rw [flatAllRes, hok]; rfl
  have HG1 := Lib.hid (HG.out hok)
  clear hok HG
  go_wp2_with fail
  refine (implAll_any (fun t _ => implFlat_all t) HG1.out (Nat.le_trans hB hB1.size) (HR.out.below (hB1.mono hB))).mono ?_
  rintro e w2 ⟨u, rfl, hu, hb2⟩
  have HU := Lib.hid (owns_flat (owns_base hu hB1.size))
  clear hu
  go_wp2_with fail
  go_ret
  rw [HF.out]
  exact ⟨_, rfl, HU.out, hB1.trans (hb2.mono hB1.size)⟩

set_option maxHeartbeats 1600000 in
theorem specIsSpilled_ok (ts : List Ty) (hwf : (PD.row 4 (ts.flatMap Ty.pd)).wf) (hsz : (PD.row 4 (ts.flatMap Ty.pd)).sz ≤ 1048576) : FnRV 27 (.row 4 (ts.flatMap Ty.pd)) (.bool (isSpilledB ts)) := by
  intro B v w hB h
  obtain ⟨A, n, c, rfl⟩ := h.form
  have HR := Lib.hid h
  have HG := Lib.hid (fun h => good_of hwf hsz h)
  rw [PD.wf] at hwf
  have HW := Lib.hid (wfL_flatMap.1 hwf)
  have HP : Hid (∀ t ∈ ts, t.parts ≤ 4194304) := fun t ht => by have := parts_mem ht; have := partsL_le ts; omega
  clear h hwf hsz
  go_enter Try.func27, Try.ntmps27
  go_wp2_with fail
  refine (specTypesOk_any hB HW.out HR.out).mono ?_
  rintro e w1 ⟨rfl, hB1⟩
  cases hok : typesOkB ts
  · have HF : Hid (isSpilledB ts = false) := by show _ = _; rw [isSpilledB, hok]; rfl
    clear hok
    go_wp2_with fail
    go_ret
    exact ⟨ret_bool HF.out.symm, hB1⟩
  have HF : Hid (isSpilledB ts = decide (8 < (Ty.flatL ts).length)) := by show _ = _; rw [isSpilledB, hok]; rfl
  have HG1 := Lib.hid (HG.out hok)
  clear hok HG
  go_wp2_with fail

  refine (specAll_any (fun t _ => specFlat_all t) HG1.out (Nat.le_trans hB hB1.size) (HR.out.below (hB1.mono hB))).mono ?_
  rintro e w2 ⟨u, rfl, hu, hb2⟩
  obtain ⟨q, hq⟩ : ∃ q, q = (Ty.flatL ts).length := ⟨_, rfl⟩
  rw [← hq] at hu HF
  obtain ⟨A2, n2, c2, rfl, hn2, _⟩ := (Own.of_own hu).form
  have h2 := hu.1
  have h3 := flatL_take_len ts ts.length
  rw [List.take_length, ← hq] at h3
  have h4 := HG1.out.sz
  have hq2 : n2 = q := by omega
  subst hq2
  clear hu hn2 h2
  go_wp2_with fail
  go_ret
  exact ⟨ret_bool (by rw [HF.out, Bool.eq_iff_iff, decide_eq_true_iff, decide_eq_true_iff]; omega), hB1.trans (hb2.mono hB1.size)⟩
set_option maxHeartbeats 1600000 in
theorem isSpilled_any {ts : List Ty} (hg : Good ts) {B : Nat} {v : Value} {w : World} (hB : B ≤ w.heap.size) (h : Rep w B (.row 4 (ts.flatMap Ty.pd)) v) :
    Calls Try.prog 83 #[v] w fun e w' => e = .returned (.bool (decide (8 < (Ty.flatL ts).length))) ∧ Below w.heap.size w w' := by
  obtain ⟨A, n, c, rfl⟩ := h.form
  have HR := Lib.hid h
  have HG := Lib.hid hg
  clear h hg
  obtain ⟨q, hq⟩ : ∃ q, q = (Ty.flatL ts).length := ⟨_, rfl⟩
  rw [← hq]
  have HQ := Lib.hid hq
  clear hq
  go_enter Try.func83, Try.ntmps83
  go_wp2_with fail
  refine (implAll_any (fun t _ => implFlat_all t) HG.out hB HR.out).mono ?_
  rintro e w2 ⟨u, rfl, hu, hb2⟩
  rw [← HQ.out] at hu
  obtain ⟨A2, n2, c2, rfl, hn2, _⟩ := (Own.of_own hu).form
  have h2 := hu.1
  have h3 := flatL_take_len ts ts.length
  rw [List.take_length, ← HQ.out] at h3
  have h4 := HG.out.sz
  have hq2 : n2 = q := by omega
  subst hq2
  clear hu hn2 h2
  go_wp2_with fail
  go_ret
  exact ⟨ret_bool (by rw [Bool.eq_iff_iff, decide_eq_true_iff, decide_eq_true_iff]; omega), hb2⟩
set_option maxHeartbeats 1600000 in
theorem implIsSpilled_ok (ts : List Ty) (hwf : (PD.row 4 (ts.flatMap Ty.pd)).wf) (hsz : (PD.row 4 (ts.flatMap Ty.pd)).sz ≤ 1048576) : FnRV 29 (.row 4 (ts.flatMap Ty.pd)) (.bool (isSpilledB ts)) := by
  intro B v w hB h
  obtain ⟨A, n, c, rfl⟩ := h.form
  have HR := Lib.hid h
  have HG := Lib.hid (fun h => good_of hwf hsz h)
  rw [PD.wf] at hwf
  have HW := Lib.hid (wfL_flatMap.1 hwf)
  have HP : Hid (∀ t ∈ ts, t.parts ≤ 4194304) := fun t ht => by have := parts_mem ht; have := partsL_le ts; omega
  clear h hwf hsz
  go_enter Try.func29, Try.ntmps29
  go_wp2_with fail
  refine (implTypesOk_any hB HW.out HP.out HR.out).mono ?_
  rintro e w1 ⟨rfl, hB1⟩
  cases hok : typesOkB ts
  · have HF : Hid (isSpilledB ts = false) := by show _ = _; rw [isSpilledB, hok]; rfl
    clear hok
    go_wp2_with fail
    go_ret
    exact ⟨ret_bool HF.out.symm, hB1⟩
  have HF : Hid (isSpilledB ts = decide (8 < (Ty.flatL ts).length)) := by show _ = _; rw [isSpilledB, hok]; rfl
  have HG1 := Lib.hid (HG.out hok)
  clear hok HG
  go_wp2_with fail

  refine (isSpilled_any HG1.out (Nat.le_trans hB hB1.size) (HR.out.below (hB1.mono hB))).mono ?_
  rintro e w2 ⟨rfl, hb2⟩
  go_wp2_with fail
  go_ret
  exact ⟨ret_bool HF.out.symm, hB1.trans (hb2.mono hB1.size)⟩
end Go.Proofs.Ytmmeaakhikcigaa

