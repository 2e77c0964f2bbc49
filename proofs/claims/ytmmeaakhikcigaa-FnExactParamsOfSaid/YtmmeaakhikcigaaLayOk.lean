/-
  What the laws of the layout chapter ask for (by program).
-/
import Derived.Test.YtmmeaakhikcigaaLayImpl
namespace Go.Proofs.Ytmmeaakhikcigaa
open Go.RowKit
set_option linter.unusedVariables false
set_option linter.unusedSimpArgs false
set_option linter.unnecessarySimpa false

def typesOkB (ts : List Ty) : Bool := decide (ts.length ≤ 24) && !ts.any fun t => !typeOk t
theorem typesOk_mem {ts : List Ty} (h : typesOkB ts = true) : ∀ t ∈ ts, typeOk t = true := by
  rw [typesOkB, Bool.and_eq_true, Bool.not_eq_true'] at h
  intro t ht
  have := List.any_eq_false.1 h.2 t ht
  simpa using this
theorem typeOk_shapes {t : Ty} (h : typeOk t = true) : t.shapes = true := by
  rw [typeOk, Bool.and_eq_true] at h
  exact h.2
theorem parts_sz {t : Ty} (h : PD.szL (Ty.pd t) ≤ 1048576) : t.parts ≤ 4194304 := by
  have := parts_le t
  omega
theorem good_of {ts : List Ty} (hwf : (PD.row 4 (ts.flatMap Ty.pd)).wf) (hsz : (PD.row 4 (ts.flatMap Ty.pd)).sz ≤ 1048576) (h : typesOkB ts = true) : Good ts := by
  rw [PD.wf] at hwf
  exact ⟨by have := partsL_le ts; omega, fun t ht => typeOk_shapes (typesOk_mem h t ht), wfL_flatMap.1 hwf⟩
set_option maxHeartbeats 1600000 in
theorem specTypesOk_any {ts : List Ty} {B : Nat} {v : Value} {w : World} (hB : B ≤ w.heap.size) (hwf : ∀ t ∈ ts, PD.wfL (Ty.pd t)) (h : Rep w B (.row 4 (ts.flatMap Ty.pd)) v) :
    Calls Try.prog 80 #[v] w fun e w' => e = .returned (.bool (typesOkB ts)) ∧ Below w.heap.size w w' := by
  obtain ⟨A, n, c, rfl, hnl, hm, hat⟩ := rep_row Ty.pd_length (by decide) h
  unfold maxLen at hm
  have HN := Lib.hid hnl
  have HW := Lib.hid hwf
  clear hnl h hwf
  go_enter Try.func80, Try.ntmps80
  go_wp2_with fail
  go_loopw [3] (fun i wr => ∃ k : Nat, k ≤ n ∧ k ≤ 25 ∧ i = .int .i64 k ∧ Hid (∀ (j : Nat) (t : Ty), j < k → ts[j]? = some t → (!typeOk t) = false) ∧ Below w.heap.size w wr) (fun i _ => n - (intOf i).toNat)
  case atStart => exact ⟨0, Nat.zero_le _, by omega, rfl, Lib.hid fun j t h => absurd h (by omega), Below.refl _ _⟩
  case round =>
    obtain ⟨k, hk, hk25, rfl, HP, hbr⟩ := hrel
    have hsz := hbr.size
    by_cases hlt : k < n
    · by_cases h24 : k ≤ 24
      · obtain ⟨g, off, rfl, hg2, hcell2⟩ := hat (by omega)
        obtain ⟨t2, hx2, hmem2⟩ := at_lt HN.out hlt
        obtain ⟨kind2, name2, labels2, kids2⟩ := t2
        have c_kind2 : wr.cell? ⟨g, off + k * 4, none⟩ = some (.int .i64 kind2) := cell_lit hbr (by omega) (hcell2 k 0 _ _ hx2 (by rw [Ty.pd_mk]; rfl))
        have c_name2 : wr.cell? ⟨g, off + k * 4 + 1, none⟩ = some (.string name2) := cell_lit hbr (by omega) (hcell2 k 1 _ _ hx2 (by rw [Ty.pd_mk]; rfl))
        obtain ⟨labelsV2, c_labels2, r_labels2⟩ : ∃ u, wr.cell? ⟨g, off + k * 4 + 2, none⟩ = some u ∧ Rep wr B (.row 1 (labels2.flatMap strC)) u := cell_rep hbr (by omega) hB (hcell2 k 2 _ _ hx2 (by rw [Ty.pd_mk]; rfl))
        have R_labels2 := Lib.hid r_labels2
        clear r_labels2
        obtain ⟨kidsV2, c_kids2, r_kids2⟩ : ∃ u, wr.cell? ⟨g, off + k * 4 + 3, none⟩ = some u ∧ Rep wr B (.row 4 (kids2.flatMap Ty.pd)) u := cell_rep hbr (by omega) hB (hcell2 k 3 _ _ hx2 (by rw [Ty.pd_mk]; rfl))
        have R_kids2 := Lib.hid r_kids2
        clear r_kids2
        have HX2 := Lib.hid hx2
        have HM2 := Lib.hid hmem2
        clear hx2 hmem2
        clear hcell2
        have hcall := specTypeOk_any (Ty.mk kind2 name2 labels2 kids2) (B := B) (cs := [.int .i64 kind2, .string name2, labelsV2, kidsV2]) (w := wr) (Nat.le_trans hB hbr.size) (HW.out _ HM2.out) (Ty.close_ R_labels2.out R_kids2.out)
        obtain ⟨t, ht⟩ : ∃ t : Ty, t = ⟨kind2, name2, labels2, kids2⟩ := ⟨_, rfl⟩
        have hx := HX2.out
        rw [← ht] at hcall hx
        have HX := Lib.hid hx
        have HC := Lib.hid hcall
        clear hcall ht hx
        go_wp2_with fail
        refine HC.out.mono ?_
        rintro e w1 ⟨rfl, hb1⟩
        have hB1 := hbr.trans (hb1.mono hbr.size)
        cases hb : typeOk t
        · have HA := Lib.hid (any_hit (p := fun t : Ty => !typeOk t) HX.out (by rw [hb]; rfl))
          go_wp2_with fail
          go_ret
          exact ⟨ret_bool (by rw [typesOkB, HA.out]; simp), hB1⟩
        · have HB := Lib.hid (show (!typeOk t) = false by rw [hb]; rfl)
          clear hb
          go_wp2_with fail
          go_roundw
          case rel => exact ⟨k + 1, by omega, by omega, by go_num, Lib.hid (pre_next (p := fun t : Ty => !typeOk t) HP.out HX.out HB.out), hB1⟩
          case measure => simp [intOf]; omega
      · have hF : Hid (typesOkB ts = false) := by show _ = _; rw [typesOkB, decide_eq_false (by have := HN.out; omega)]; rfl
        have hn24 : (24 : Int) < (n : Int) := by omega
        go_wp2_with fail
        go_ret
        exact ⟨ret_bool (by rw [hF.out, decide_eq_false (by omega)]), hbr⟩
    · have hkn : k = n := by omega
      subst hkn
      have HA := Lib.hid (any_none (p := fun t : Ty => !typeOk t) (ts := ts) (n := k) (by have := HN.out; omega) HP.out)
      by_cases h24 : k ≤ 24
      · have HF : Hid (typesOkB ts = true) := by show _ = _; rw [typesOkB, HA.out, decide_eq_true (by have := HN.out; omega)]; rfl
        go_wp2_with fail
        go_ret
        exact ⟨ret_bool (by rw [HF.out, decide_eq_true (by omega)]), hbr⟩
      · have HF : Hid (typesOkB ts = false) := by show _ = _; rw [typesOkB, decide_eq_false (by have := HN.out; omega)]; rfl
        go_wp2_with fail
        go_ret
        exact ⟨ret_bool (by rw [HF.out, decide_eq_false (by omega)]), hbr⟩
theorem typesOk1_enter (a : Array Value) (W : World) : Sem.run Try.prog (callFunc 134 a) W = .ok (.enter 134 a) W := by kernel_rfl
theorem typesOk1_any {t : Ty} {B : Nat} {cs : List Value} {w : World} (hB : B ≤ w.heap.size) (hwf : PD.wfL (Ty.pd t)) (hp : t.parts ≤ 4194304) (h : RepC w B (Ty.pd t) cs) :
    Calls Try.prog 134 (#[.agg cs.toArray] ++ #[]) w fun e w' => e = .returned (.bool (!typeOk t)) ∧ Below w.heap.size w w' := by
  obtain ⟨kind, name, labels, kids⟩ := t
  obtain ⟨labelsV, kidsV, rfl, r_labels, r_kids⟩ := Ty.open_ h
  have R_labels := Lib.hid r_labels
  clear r_labels
  have R_kids := Lib.hid r_kids
  clear r_kids
  have HW := Lib.hid hwf
  have HP := Lib.hid hp
  clear h hwf hp
  go_enter Try.func134, Try.ntmps134
  go_wp2_with fail
  obtain ⟨w0, hw0⟩ : ∃ W, W = w.alloc (.cells #[.int .i64 kind, .string name, labelsV, kidsV] 51) := ⟨_, rfl⟩
  rw [← hw0]
  have bA : Blk w0 w.heap.size 51 #[.int .i64 kind, .string name, labelsV, kidsV] := by rw [hw0]; exact Blk.new w _ _
  have hB0 : Below w.heap.size w w0 := by rw [hw0]; exact (Below.refl _ _).alloc (Nat.le_refl _) _
  clear hw0
  refine (implTypeOk_any ⟨kind, name, labels, kids⟩ (B := B) (cs := [.int .i64 kind, .string name, labelsV, kidsV]) (Nat.le_trans hB hB0.size) HW.out HP.out (Ty.close_ (R_labels.out.below (hB0.mono hB)) (R_kids.out.below (hB0.mono hB)))).mono ?_
  rintro e w1 ⟨rfl, hb1⟩
  go_wp2_with fail
  go_ret
  exact ⟨rfl, hB0.trans (hb1.mono hB0.size)⟩
set_option maxHeartbeats 1600000 in
theorem implTypesOk_any {ts : List Ty} {B : Nat} {v : Value} {w : World} (hB : B ≤ w.heap.size) (hwf : ∀ t ∈ ts, PD.wfL (Ty.pd t)) (hp : ∀ t ∈ ts, t.parts ≤ 4194304) (h : Rep w B (.row 4 (ts.flatMap Ty.pd)) v) :
    Calls Try.prog 82 #[v] w fun e w' => e = .returned (.bool (typesOkB ts)) ∧ Below w.heap.size w w' := by
  obtain ⟨A, n, c, rfl, hnl, hm, hat⟩ := rep_row Ty.pd_length (by decide) h
  unfold maxLen at hm
  have HN := Lib.hid hnl
  have HW := Lib.hid hwf
  have HP := Lib.hid hp
  have HR := Lib.hid h
  clear hnl h hwf hat hp
  by_cases h24 : n ≤ 24
  · have HF : Hid (typesOkB ts = !ts.any fun t => !typeOk t) := by show _ = _; rw [typesOkB, decide_eq_true (by have := HN.out; omega)]; rfl
    go_enter Try.func82, Try.ntmps82
    go_wp2_with fail
    refine (hasTypeS_any 134 #[] (fun t => !typeOk t) hB HR.out typesOk1_enter (fun t ht cs W hW hr => typesOk1_any (Nat.le_refl _) (HW.out t ht) (HP.out t ht) (hr.more (by have := hW.size; omega)))).mono ?_
    rintro e w1 ⟨rfl, hb1⟩
    go_wp2_with fail
    go_ret
    exact ⟨ret_bool HF.out.symm, hb1⟩
  · have HF : Hid (typesOkB ts = false) := by show _ = _; rw [typesOkB, decide_eq_false (by have := HN.out; omega)]; rfl
    go_enter Try.func82, Try.ntmps82
    go_wp2_with fail
    go_ret
    exact ⟨ret_bool HF.out.symm, Below.refl _ _⟩

/-! ### the laws' functions -/
def Ty.alignRes (t : Ty) : Int := if typeOk t then (t.lay.2 : Nat) else 0
def Ty.sizeRes (t : Ty) : Int := if typeOk t then (t.lay.1 : Nat) else 0
def Ty.cased (t : Ty) : Bool := t.kind == 13 || t.kind == 14 || t.kind == 17
def Ty.caseRes (t : Ty) : Int := if typeOk t && t.cased then (up 1 (Ty.mostL t.cases).2 : Nat) else 0
def totalAlignRes (ts : List Ty) : Int := if typesOkB ts then ((Ty.mostL ts).2 : Nat) else 0
def totalSizeRes (ts : List Ty) : Int := if typesOkB ts then (up (Ty.endL 0 ts) (Ty.mostL ts).2 : Nat) else 0

set_option maxHeartbeats 1600000 in
theorem specAlignOf_ok (t : Ty) (hwf : PD.wfL (Ty.pd t)) (hsz : PD.szL (Ty.pd t) ≤ 1048576) : FnCV 32 (Ty.pd t) (.int .i64 t.alignRes) := by
  intro B cs w hB h
  have hp := parts_sz hsz
  obtain ⟨kind, name, labels, kids⟩ := t
  obtain ⟨labelsV, kidsV, rfl, r_labels, r_kids⟩ := Ty.open_ h
  have R_labels := Lib.hid r_labels
  clear r_labels
  have R_kids := Lib.hid r_kids
  clear r_kids
  have HW := Lib.hid hwf
  have HP := Lib.hid hp
  clear h hwf hsz hp
  go_enter Try.func32, Try.ntmps32
  go_wp2_with fail
  obtain ⟨w0, hw0⟩ : ∃ W, W = w.alloc (.cells #[.int .i64 kind, .string name, labelsV, kidsV] 51) := ⟨_, rfl⟩
  rw [← hw0]
  have bA : Blk w0 w.heap.size 51 #[.int .i64 kind, .string name, labelsV, kidsV] := by rw [hw0]; exact Blk.new w _ _
  have hB0 : Below w.heap.size w w0 := by rw [hw0]; exact (Below.refl _ _).alloc (Nat.le_refl _) _
  clear hw0
  have RC : Hid (RepC w0 B (Ty.pd ⟨kind, name, labels, kids⟩) [.int .i64 kind, .string name, labelsV, kidsV]) := Ty.close_ (R_labels.out.below (hB0.mono hB)) (R_kids.out.below (hB0.mono hB))
  have hBs := Nat.le_trans hB hB0.size
  refine (specTypeOk_any ⟨kind, name, labels, kids⟩ (B := B) (cs := [.int .i64 kind, .string name, labelsV, kidsV]) hBs HW.out RC.out).mono ?_
  rintro e w1 ⟨rfl, hb1⟩
  have hB1 := hB0.trans (hb1.mono hB0.size)
  have bA1 := bA.step hb1
  clear bA
  cases hok : typeOk ⟨kind, name, labels, kids⟩
  · have HF : Hid (Ty.alignRes ⟨kind, name, labels, kids⟩ = 0) := by show _ = _; rw [Ty.alignRes, hok]; rfl
    clear hok
    go_wp2_with fail
    go_ret
    exact ⟨ret_int HF.out.symm, hB1⟩
  have HF : Hid (Ty.alignRes ⟨kind, name, labels, kids⟩ = ((Ty.mk kind name labels kids).lay.2 : Nat)) := by show _ = _; rw [Ty.alignRes, hok]; rfl
  have HS := Lib.hid (typeOk_shapes hok)
  clear hok
  have a1_0 : w1.cell? ⟨w.heap.size, 0, none⟩ = some (.int .i64 kind) := bA1.cell 0
  have a1_1 : w1.cell? ⟨w.heap.size, 1, none⟩ = some (.string name) := bA1.cell 1
  have a1_2 : w1.cell? ⟨w.heap.size, 2, none⟩ = some labelsV := bA1.cell 2
  have a1_3 : w1.cell? ⟨w.heap.size, 3, none⟩ = some kidsV := bA1.cell 3
  go_wp2_with fail
  refine (specLay_all ⟨kind, name, labels, kids⟩ B [.int .i64 kind, .string name, labelsV, kidsV] w1 HP.out HS.out HW.out (Nat.le_trans hBs hb1.size) (RC.out.below (hb1.mono hBs))).mono ?_
  rintro e w2 ⟨rfl, hb2⟩
  go_wp2_with fail
  go_ret
  exact ⟨ret_int HF.out.symm, hB1.trans (hb2.mono hB1.size)⟩
set_option maxHeartbeats 1600000 in
theorem specSizeOf_ok (t : Ty) (hwf : PD.wfL (Ty.pd t)) (hsz : PD.szL (Ty.pd t) ≤ 1048576) : FnCV 45 (Ty.pd t) (.int .i64 t.sizeRes) := by
  intro B cs w hB h
  have hp := parts_sz hsz
  obtain ⟨kind, name, labels, kids⟩ := t
  obtain ⟨labelsV, kidsV, rfl, r_labels, r_kids⟩ := Ty.open_ h
  have R_labels := Lib.hid r_labels
  clear r_labels
  have R_kids := Lib.hid r_kids
  clear r_kids
  have HW := Lib.hid hwf
  have HP := Lib.hid hp
  clear h hwf hsz hp
  go_enter Try.func45, Try.ntmps45
  go_wp2_with fail
  obtain ⟨w0, hw0⟩ : ∃ W, W = w.alloc (.cells #[.int .i64 kind, .string name, labelsV, kidsV] 51) := ⟨_, rfl⟩
  rw [← hw0]
  have bA : Blk w0 w.heap.size 51 #[.int .i64 kind, .string name, labelsV, kidsV] := by rw [hw0]; exact Blk.new w _ _
  have hB0 : Below w.heap.size w w0 := by rw [hw0]; exact (Below.refl _ _).alloc (Nat.le_refl _) _
  clear hw0
  have RC : Hid (RepC w0 B (Ty.pd ⟨kind, name, labels, kids⟩) [.int .i64 kind, .string name, labelsV, kidsV]) := Ty.close_ (R_labels.out.below (hB0.mono hB)) (R_kids.out.below (hB0.mono hB))
  have hBs := Nat.le_trans hB hB0.size
  refine (specTypeOk_any ⟨kind, name, labels, kids⟩ (B := B) (cs := [.int .i64 kind, .string name, labelsV, kidsV]) hBs HW.out RC.out).mono ?_
  rintro e w1 ⟨rfl, hb1⟩
  have hB1 := hB0.trans (hb1.mono hB0.size)
  have bA1 := bA.step hb1
  clear bA
  cases hok : typeOk ⟨kind, name, labels, kids⟩
  · have HF : Hid (Ty.sizeRes ⟨kind, name, labels, kids⟩ = 0) := by show _ = _; rw [Ty.sizeRes, hok]; rfl
    clear hok
    go_wp2_with fail
    go_ret
    exact ⟨ret_int HF.out.symm, hB1⟩
  have HF : Hid (Ty.sizeRes ⟨kind, name, labels, kids⟩ = ((Ty.mk kind name labels kids).lay.1 : Nat)) := by show _ = _; rw [Ty.sizeRes, hok]; rfl
  have HS := Lib.hid (typeOk_shapes hok)
  clear hok
  have a1_0 : w1.cell? ⟨w.heap.size, 0, none⟩ = some (.int .i64 kind) := bA1.cell 0
  have a1_1 : w1.cell? ⟨w.heap.size, 1, none⟩ = some (.string name) := bA1.cell 1
  have a1_2 : w1.cell? ⟨w.heap.size, 2, none⟩ = some labelsV := bA1.cell 2
  have a1_3 : w1.cell? ⟨w.heap.size, 3, none⟩ = some kidsV := bA1.cell 3
  go_wp2_with fail
  refine (specLay_all ⟨kind, name, labels, kids⟩ B [.int .i64 kind, .string name, labelsV, kidsV] w1 HP.out HS.out HW.out (Nat.le_trans hBs hb1.size) (RC.out.below (hb1.mono hBs))).mono ?_
  rintro e w2 ⟨rfl, hb2⟩
  go_wp2_with fail
  go_ret
  exact ⟨ret_int HF.out.symm, hB1.trans (hb2.mono hB1.size)⟩
set_option maxHeartbeats 1600000 in
theorem implAlignOf_ok (t : Ty) (hwf : PD.wfL (Ty.pd t)) (hsz : PD.szL (Ty.pd t) ≤ 1048576) : FnCV 34 (Ty.pd t) (.int .i64 t.alignRes) := by
  intro B cs w hB h
  have hp := parts_sz hsz
  obtain ⟨kind, name, labels, kids⟩ := t
  obtain ⟨labelsV, kidsV, rfl, r_labels, r_kids⟩ := Ty.open_ h
  have R_labels := Lib.hid r_labels
  clear r_labels
  have R_kids := Lib.hid r_kids
  clear r_kids
  have HW := Lib.hid hwf
  have HP := Lib.hid hp
  clear h hwf hsz hp
  go_enter Try.func34, Try.ntmps34
  go_wp2_with fail
  obtain ⟨w0, hw0⟩ : ∃ W, W = w.alloc (.cells #[.int .i64 kind, .string name, labelsV, kidsV] 51) := ⟨_, rfl⟩
  rw [← hw0]
  have bA : Blk w0 w.heap.size 51 #[.int .i64 kind, .string name, labelsV, kidsV] := by rw [hw0]; exact Blk.new w _ _
  have hB0 : Below w.heap.size w w0 := by rw [hw0]; exact (Below.refl _ _).alloc (Nat.le_refl _) _
  clear hw0
  have RC : Hid (RepC w0 B (Ty.pd ⟨kind, name, labels, kids⟩) [.int .i64 kind, .string name, labelsV, kidsV]) := Ty.close_ (R_labels.out.below (hB0.mono hB)) (R_kids.out.below (hB0.mono hB))
  have hBs := Nat.le_trans hB hB0.size
  refine (implTypeOk_any ⟨kind, name, labels, kids⟩ (B := B) (cs := [.int .i64 kind, .string name, labelsV, kidsV]) hBs HW.out HP.out RC.out).mono ?_
  rintro e w1 ⟨rfl, hb1⟩
  have hB1 := hB0.trans (hb1.mono hB0.size)
  have bA1 := bA.step hb1
  clear bA
  cases hok : typeOk ⟨kind, name, labels, kids⟩
  · have HF : Hid (Ty.alignRes ⟨kind, name, labels, kids⟩ = 0) := by show _ = _; rw [Ty.alignRes, hok]; rfl
    clear hok
    go_wp2_with fail
    go_ret
    exact ⟨ret_int HF.out.symm, hB1⟩
  have HF : Hid (Ty.alignRes ⟨kind, name, labels, kids⟩ = ((Ty.mk kind name labels kids).lay.2 : Nat)) := by show _ = _; rw [Ty.alignRes, hok]; rfl
  have HS := Lib.hid (typeOk_shapes hok)
  clear hok
  have a1_0 : w1.cell? ⟨w.heap.size, 0, none⟩ = some (.int .i64 kind) := bA1.cell 0
  have a1_1 : w1.cell? ⟨w.heap.size, 1, none⟩ = some (.string name) := bA1.cell 1
  have a1_2 : w1.cell? ⟨w.heap.size, 2, none⟩ = some labelsV := bA1.cell 2
  have a1_3 : w1.cell? ⟨w.heap.size, 3, none⟩ = some kidsV := bA1.cell 3
  go_wp2_with fail
  refine (align_all ⟨kind, name, labels, kids⟩ B [.int .i64 kind, .string name, labelsV, kidsV] w1 HP.out HS.out HW.out (Nat.le_trans hBs hb1.size) (RC.out.below (hb1.mono hBs))).mono ?_
  rintro e w2 ⟨rfl, hb2⟩
  go_wp2_with fail
  go_ret
  exact ⟨ret_int HF.out.symm, hB1.trans (hb2.mono hB1.size)⟩
set_option maxHeartbeats 1600000 in
theorem implSizeOf_ok (t : Ty) (hwf : PD.wfL (Ty.pd t)) (hsz : PD.szL (Ty.pd t) ≤ 1048576) : FnCV 46 (Ty.pd t) (.int .i64 t.sizeRes) := by
  intro B cs w hB h
  have hp := parts_sz hsz
  obtain ⟨kind, name, labels, kids⟩ := t
  obtain ⟨labelsV, kidsV, rfl, r_labels, r_kids⟩ := Ty.open_ h
  have R_labels := Lib.hid r_labels
  clear r_labels
  have R_kids := Lib.hid r_kids
  clear r_kids
  have HW := Lib.hid hwf
  have HP := Lib.hid hp
  clear h hwf hsz hp
  go_enter Try.func46, Try.ntmps46
  go_wp2_with fail
  obtain ⟨w0, hw0⟩ : ∃ W, W = w.alloc (.cells #[.int .i64 kind, .string name, labelsV, kidsV] 51) := ⟨_, rfl⟩
  rw [← hw0]
  have bA : Blk w0 w.heap.size 51 #[.int .i64 kind, .string name, labelsV, kidsV] := by rw [hw0]; exact Blk.new w _ _
  have hB0 : Below w.heap.size w w0 := by rw [hw0]; exact (Below.refl _ _).alloc (Nat.le_refl _) _
  clear hw0
  have RC : Hid (RepC w0 B (Ty.pd ⟨kind, name, labels, kids⟩) [.int .i64 kind, .string name, labelsV, kidsV]) := Ty.close_ (R_labels.out.below (hB0.mono hB)) (R_kids.out.below (hB0.mono hB))
  have hBs := Nat.le_trans hB hB0.size
  refine (implTypeOk_any ⟨kind, name, labels, kids⟩ (B := B) (cs := [.int .i64 kind, .string name, labelsV, kidsV]) hBs HW.out HP.out RC.out).mono ?_
  rintro e w1 ⟨rfl, hb1⟩
  have hB1 := hB0.trans (hb1.mono hB0.size)
  have bA1 := bA.step hb1
  clear bA
  cases hok : typeOk ⟨kind, name, labels, kids⟩
  · have HF : Hid (Ty.sizeRes ⟨kind, name, labels, kids⟩ = 0) := by show _ = _; rw [Ty.sizeRes, hok]; rfl
    clear hok
    go_wp2_with fail
    go_ret
    exact ⟨ret_int HF.out.symm, hB1⟩
  have HF : Hid (Ty.sizeRes ⟨kind, name, labels, kids⟩ = ((Ty.mk kind name labels kids).lay.1 : Nat)) := by show _ = _; rw [Ty.sizeRes, hok]; rfl
  have HS := Lib.hid (typeOk_shapes hok)
  clear hok
  have a1_0 : w1.cell? ⟨w.heap.size, 0, none⟩ = some (.int .i64 kind) := bA1.cell 0
  have a1_1 : w1.cell? ⟨w.heap.size, 1, none⟩ = some (.string name) := bA1.cell 1
  have a1_2 : w1.cell? ⟨w.heap.size, 2, none⟩ = some labelsV := bA1.cell 2
  have a1_3 : w1.cell? ⟨w.heap.size, 3, none⟩ = some kidsV := bA1.cell 3
  go_wp2_with fail
  refine (size_all ⟨kind, name, labels, kids⟩ B [.int .i64 kind, .string name, labelsV, kidsV] w1 HP.out HS.out HW.out (Nat.le_trans hBs hb1.size) (RC.out.below (hb1.mono hBs))).mono ?_
  rintro e w2 ⟨rfl, hb2⟩
  go_wp2_with fail
  go_ret
  exact ⟨ret_int HF.out.symm, hB1.trans (hb2.mono hB1.size)⟩
set_option maxHeartbeats 1600000 in
theorem specTotalAlign_ok (ts : List Ty) (hwf : (PD.row 4 (ts.flatMap Ty.pd)).wf) (hsz : (PD.row 4 (ts.flatMap Ty.pd)).sz ≤ 1048576) : FnRV 43 (.row 4 (ts.flatMap Ty.pd)) (.int .i64 (totalAlignRes ts)) := by
  intro B v w hB h
  obtain ⟨A, n, c, rfl⟩ := h.form
  have HR := Lib.hid h
  have HG := Lib.hid (fun h => good_of hwf hsz h)
  rw [PD.wf] at hwf
  have HW := Lib.hid (wfL_flatMap.1 hwf)
  have HP : Hid (∀ t ∈ ts, t.parts ≤ 4194304) := fun t ht => by have := parts_mem ht; have := partsL_le ts; omega
  clear h hwf hsz
  go_enter Try.func43, Try.ntmps43
  go_wp2_with fail
  refine (specTypesOk_any hB HW.out HR.out).mono ?_
  rintro e w1 ⟨rfl, hb1⟩
  cases hok : typesOkB ts
  · have HF : Hid (totalAlignRes ts = 0) := by show _ = _; rw [totalAlignRes, hok]; rfl
    clear hok
    go_wp2_with fail
    go_ret
    exact ⟨ret_int HF.out.symm, hb1⟩
  have HF : Hid (totalAlignRes ts = ((Ty.mostL ts).2 : Nat)) := by show _ = _; rw [totalAlignRes, hok]; rfl
  have HG1 := Lib.hid (HG.out hok)
  clear hok HG
  go_wp2_with fail
  refine (specPartsAt_any (fun t _ => specLay_all t) HG1.out (Nat.le_trans hB hb1.size) (HR.out.below (hb1.mono hB))).mono ?_
  rintro e w2 ⟨u, rfl, _, hb2⟩
  go_wp2_with fail
  go_ret
  exact ⟨ret_int HF.out.symm, hb1.trans (hb2.mono hb1.size)⟩
set_option maxHeartbeats 1600000 in
theorem specTotalSize_ok (ts : List Ty) (hwf : (PD.row 4 (ts.flatMap Ty.pd)).wf) (hsz : (PD.row 4 (ts.flatMap Ty.pd)).sz ≤ 1048576) : FnRV 52 (.row 4 (ts.flatMap Ty.pd)) (.int .i64 (totalSizeRes ts)) := by
  intro B v w hB h
  obtain ⟨A, n, c, rfl⟩ := h.form
  have HR := Lib.hid h
  have HG := Lib.hid (fun h => good_of hwf hsz h)
  rw [PD.wf] at hwf
  have HW := Lib.hid (wfL_flatMap.1 hwf)
  have HP : Hid (∀ t ∈ ts, t.parts ≤ 4194304) := fun t ht => by have := parts_mem ht; have := partsL_le ts; omega
  clear h hwf hsz
  go_enter Try.func52, Try.ntmps52
  go_wp2_with fail
  refine (specTypesOk_any hB HW.out HR.out).mono ?_
  rintro e w1 ⟨rfl, hb1⟩
  cases hok : typesOkB ts
  · have HF : Hid (totalSizeRes ts = 0) := by show _ = _; rw [totalSizeRes, hok]; rfl
    clear hok
    go_wp2_with fail
    go_ret
    exact ⟨ret_int HF.out.symm, hb1⟩
  have HF : Hid (totalSizeRes ts = (up (Ty.endL 0 ts) (Ty.mostL ts).2 : Nat)) := by show _ = _; rw [totalSizeRes, hok]; rfl
  have HG1 := Lib.hid (HG.out hok)
  clear hok HG
  go_wp2_with fail
  refine (specPartsAt_any (fun t _ => specLay_all t) HG1.out (Nat.le_trans hB hb1.size) (HR.out.below (hb1.mono hB))).mono ?_
  rintro e w2 ⟨u, rfl, _, hb2⟩
  go_wp2_with fail
  go_ret
  exact ⟨ret_int HF.out.symm, hb1.trans (hb2.mono hb1.size)⟩
set_option maxHeartbeats 1600000 in
theorem implTotalAlign_ok (ts : List Ty) (hwf : (PD.row 4 (ts.flatMap Ty.pd)).wf) (hsz : (PD.row 4 (ts.flatMap Ty.pd)).sz ≤ 1048576) : FnRV 44 (.row 4 (ts.flatMap Ty.pd)) (.int .i64 (totalAlignRes ts)) := by
  intro B v w hB h
  obtain ⟨A, n, c, rfl⟩ := h.form
  have HR := Lib.hid h
  have HG := Lib.hid (fun h => good_of hwf hsz h)
  rw [PD.wf] at hwf
  have HW := Lib.hid (wfL_flatMap.1 hwf)
  have HP : Hid (∀ t ∈ ts, t.parts ≤ 4194304) := fun t ht => by have := parts_mem ht; have := partsL_le ts; omega
  clear h hwf hsz
  go_enter Try.func44, Try.ntmps44
  go_wp2_with fail
  refine (implTypesOk_any hB HW.out HP.out HR.out).mono ?_
  rintro e w1 ⟨rfl, hb1⟩
  cases hok : typesOkB ts
  · have HF : Hid (totalAlignRes ts = 0) := by show _ = _; rw [totalAlignRes, hok]; rfl
    clear hok
    go_wp2_with fail
    go_ret
    exact ⟨ret_int HF.out.symm, hb1⟩
  have HF : Hid (totalAlignRes ts = ((Ty.mostL ts).2 : Nat)) := by show _ = _; rw [totalAlignRes, hok]; rfl
  have HG1 := Lib.hid (HG.out hok)
  clear hok HG
  go_wp2_with fail
  refine (greatestAlign_any (fun t _ => align_all t) HG1.out (Nat.le_trans hB hb1.size) (HR.out.below (hb1.mono hB))).mono ?_
  rintro e w2 ⟨rfl, hb2⟩
  go_wp2_with fail
  go_ret
  exact ⟨ret_int HF.out.symm, hb1.trans (hb2.mono hb1.size)⟩
set_option maxHeartbeats 1600000 in
theorem implTotalSize_ok (ts : List Ty) (hwf : (PD.row 4 (ts.flatMap Ty.pd)).wf) (hsz : (PD.row 4 (ts.flatMap Ty.pd)).sz ≤ 1048576) : FnRV 53 (.row 4 (ts.flatMap Ty.pd)) (.int .i64 (totalSizeRes ts)) := by
  intro B v w hB h
  obtain ⟨A, n, c, rfl⟩ := h.form
  have HR := Lib.hid h
  have HG := Lib.hid (fun h => good_of hwf hsz h)
  rw [PD.wf] at hwf
  have HW := Lib.hid (wfL_flatMap.1 hwf)
  have HP : Hid (∀ t ∈ ts, t.parts ≤ 4194304) := fun t ht => by have := parts_mem ht; have := partsL_le ts; omega
  clear h hwf hsz
  go_enter Try.func53, Try.ntmps53
  go_wp2_with fail
  refine (implTypesOk_any hB HW.out HP.out HR.out).mono ?_
  rintro e w1 ⟨rfl, hb1⟩
  cases hok : typesOkB ts
  · have HF : Hid (totalSizeRes ts = 0) := by show _ = _; rw [totalSizeRes, hok]; rfl
    clear hok
    go_wp2_with fail
    go_ret
    exact ⟨ret_int HF.out.symm, hb1⟩
  have HF : Hid (totalSizeRes ts = (up (Ty.endL 0 ts) (Ty.mostL ts).2 : Nat)) := by show _ = _; rw [totalSizeRes, hok]; rfl
  have HG1 := Lib.hid (HG.out hok)
  clear hok HG
  go_wp2_with fail
  refine (totalSize_any (fun t _ => size_all t) HG1.out (Nat.le_trans hB hb1.size) (HR.out.below (hb1.mono hB))).mono ?_
  rintro e w2 ⟨rfl, hb2⟩
  go_wp2_with fail
  go_ret
  exact ⟨ret_int HF.out.symm, hb1.trans (hb2.mono hb1.size)⟩
end Go.Proofs.Ytmmeaakhikcigaa

