/-
  Rounding up; the cases of a type (by program: gen_lay.py).
-/
import Derived.Test.YtmmeaakhikcigaaLayMath
import Derived.Test.YtmmeaakhikcigaaShape
namespace Go.Proofs.Ytmmeaakhikcigaa
open Go.RowKit
set_option linter.unusedVariables false
set_option linter.unusedSimpArgs false
set_option linter.unnecessarySimpa false

theorem up_int (x : Nat) {a : Nat} (ha : 1 ≤ a) : ((x : Int) + (a : Int) - 1) / (a : Int) * (a : Int) = ((up x a : Nat) : Int) := by
  have h : ((x : Int) + (a : Int) - 1) = ((x + a - 1 : Nat) : Int) := by omega
  rw [h, up]
  push_cast
  rfl
theorem pd_unit : Ty.pd unitT = [.lit (.int .i64 1), .lit (.string (ByteArray.mk #[])), .row 1 [], .row 4 []] := by rw [unitT, Ty.pd_mk]; rfl
theorem nil_row {w : World} {B sz : Nat} : Rep w B (.row sz []) (.slice none 0 0) := by
  rw [Rep]
  exact ⟨none, 0, 0, rfl, by simp, by decide, fun h => absurd h (by decide)⟩
theorem pair_row {w : World} {b kd : Nat} {kind : Int} {name : ByteArray} {labels : List ByteArray} {kids : List Ty} {u v : Value}
    (bK : Blk w b kd #[.int .i64 1, .string (ByteArray.mk #[]), .slice none 0 0, .slice none 0 0, .int .i64 kind, .string name, u, v])
    (hu : Rep w w.heap.size (.row 1 (labels.flatMap strC)) u) (hv : Rep w w.heap.size (.row 4 (kids.flatMap Ty.pd)) v) :
    Rep w w.heap.size (.row 4 ([unitT, ⟨kind, name, labels, kids⟩].flatMap Ty.pd)) (.slice (some ⟨b, 0, none⟩) 2 2) := by
  rw [show [unitT, (⟨kind, name, labels, kids⟩ : Ty)].flatMap Ty.pd = [.lit (.int .i64 1), .lit (.string (ByteArray.mk #[])), .row 1 [], .row 4 [], .lit (.int .i64 kind), .lit (.string name), .row 1 (labels.flatMap strC), .row 4 (kids.flatMap Ty.pd)] by
    rw [List.flatMap_cons, List.flatMap_cons, List.flatMap_nil, pd_unit, Ty.pd_mk]; rfl]
  rw [Rep]
  refine ⟨_, 2, 2, rfl, rfl, by decide, fun _ => ⟨b, 0, rfl, bK.lt, ?_⟩⟩
  simp only [RepL]
  exact ⟨⟨_, bK.cell 0, by rw [Rep]; rfl⟩, ⟨_, bK.cell 1, by rw [Rep]; rfl⟩, ⟨_, bK.cell 2, nil_row⟩, ⟨_, bK.cell 3, nil_row⟩, ⟨_, bK.cell 4, by rw [Rep]; rfl⟩, ⟨_, bK.cell 5, by rw [Rep]; rfl⟩, ⟨_, bK.cell 6, hu⟩, ⟨_, bK.cell 7, hv⟩, trivial⟩

theorem specUp_any (x a : Nat) (w : World) (hx : x ≤ 1099511627776) (ha : 1 ≤ a) (h8 : a ≤ 8) : Calls Try.prog 138 #[.int .i64 x, .int .i64 a] w fun e w' => e = .returned (.int .i64 (up x a : Nat)) ∧ w = w' := by
  have HF := Lib.hid (up_int x ha)
  have hle : Hid (up x a ≤ x + a - 1) := up_le x ha
  go_enter Try.func138, Try.ntmps138
  go_wp2_with fail
  go_ret
  refine ⟨ret_int ?_, rfl⟩
  rw [HF.out]
  exact IntWalk.wrap64_in _ ⟨by omega, by have := hle.out; omega⟩

theorem implUp_any (x a : Nat) (w : World) (hx : x ≤ 1099511627776) (ha : 1 ≤ a) (h8 : a ≤ 8) : Calls Try.prog 146 #[.int .i64 x, .int .i64 a] w fun e w' => e = .returned (.int .i64 (up x a : Nat)) ∧ w = w' := by
  have HF := Lib.hid (up_int x ha)
  have hle : Hid (up x a ≤ x + a - 1) := up_le x ha
  go_enter Try.func146, Try.ntmps146
  go_wp2_with fail
  go_ret
  refine ⟨ret_int ?_, rfl⟩
  rw [HF.out]
  exact IntWalk.wrap64_in _ ⟨by omega, by have := hle.out; omega⟩

set_option maxHeartbeats 1600000 in
theorem specCases_13 {kind : Int} {name : ByteArray} {labels : List ByteArray} {kids : List Ty} {B n n' c c' : Nat} {A A' : Option Addr} {w : World} (HT : Hid (TyIn B n n' c c' A A' name labels kids w)) (hk : kind = 13) (hl : kids.length = 1) : Calls Try.prog 92 #[.agg #[.int .i64 kind, .string name, .slice A' n' c', .slice A n c]] w fun e w' => ∃ v, e = .returned v ∧ Rep w' w'.heap.size (.row 4 ((Ty.cases ⟨kind, name, labels, kids⟩).flatMap Ty.pd)) v ∧ Below w.heap.size w w' := by
  subst hk
  obtain ⟨t, ht⟩ := List.length_eq_one_iff.1 hl
  have hxk : kids[0]? = some t := by rw [ht]; rfl
  have HF := Lib.hid (show Ty.cases ⟨13, name, labels, kids⟩ = [unitT, t] by rw [Ty.cases, if_pos rfl, ht])
  have hn1 : n = 1 := HT.out.HN.trans hl
  have hn : n ≤ 9223372036854775807 := HT.out.hn
  clear ht hl
  obtain ⟨g, off, rfl, hg, hcell⟩ := rep_row_at Ty.pd_length (by decide) HT.out.RK (by omega)
  subst hn1
  obtain ⟨kind2, name2, labels2, kids2⟩ := t
  have hHB := HT.out.hB
  obtain ⟨w0, hw0⟩ : ∃ W, W = w.alloc (.cells #[.int .i64 13, .string name, .slice A' n' c', .slice (some ⟨g, off, none⟩) 1 c] 51) := ⟨_, rfl⟩
  have hB0 : Below w.heap.size w w0 := by rw [hw0]; exact (Below.refl _ _).alloc (Nat.le_refl _) _
  have c0 : w0.cell? ⟨g, off, none⟩ = some (.int .i64 kind2) := by have := cell_lit (B := B) hB0 (by omega) (hcell 0 0 _ _ hxk (by rw [Ty.pd_mk]; rfl)); simpa using this
  have c1 : w0.cell? ⟨g, off + 1, none⟩ = some (.string name2) := by have := cell_lit (B := B) hB0 (by omega) (hcell 0 1 _ _ hxk (by rw [Ty.pd_mk]; rfl)); simpa using this
  obtain ⟨labelsV2, c2', r2⟩ : ∃ u, w0.cell? ⟨g, off + 2, none⟩ = some u ∧ Rep w0 B (.row 1 (labels2.flatMap strC)) u := by have := cell_rep (B := B) hB0 (by omega) hHB (hcell 0 2 _ _ hxk (by rw [Ty.pd_mk]; rfl)); simpa using this
  obtain ⟨kidsV2, c3', r3⟩ : ∃ u, w0.cell? ⟨g, off + 3, none⟩ = some u ∧ Rep w0 B (.row 4 (kids2.flatMap Ty.pd)) u := by have := cell_rep (B := B) hB0 (by omega) hHB (hcell 0 3 _ _ hxk (by rw [Ty.pd_mk]; rfl)); simpa using this
  have R2 := Lib.hid r2
  have R3 := Lib.hid r3
  clear r2 r3 hcell hxk
  have hs0 : w0.heap.size = w.heap.size + 1 := by rw [hw0]; simp
  subst hw0
  go_enter Try.func92, Try.ntmps92
  go_wp2_with fail
  go_ret
  rw [HF.out]
  have bK := Blk.new (w.alloc (.cells #[.int .i64 13, .string name, .slice A' n' c', .slice (some ⟨g, off, none⟩) 1 c] 51)) 51 #[.int .i64 1, .string (ByteArray.mk #[]), .slice none 0 0, .slice none 0 0, .int .i64 kind2, .string name2, labelsV2, kidsV2]
  rw [hs0] at bK
  have hb1 := (Below.refl w.heap.size (w.alloc (.cells #[.int .i64 13, .string name, .slice A' n' c', .slice (some ⟨g, off, none⟩) 1 c] 51))).alloc (by rw [hs0]; omega) (.cells #[.int .i64 1, .string (ByteArray.mk #[]), .slice none 0 0, .slice none 0 0, .int .i64 kind2, .string name2, labelsV2, kidsV2] 51)
  have hs1 := hb1.size
  exact ⟨_, rfl, pair_row bK ((R2.out.below (hb1.mono hHB)).more (by omega)) ((R3.out.below (hb1.mono hHB)).more (by omega)), hB0.trans hb1⟩

set_option maxHeartbeats 1600000 in
theorem specCases_14 {kind : Int} {name : ByteArray} {labels : List ByteArray} {kids : List Ty} {B n n' c c' : Nat} {A A' : Option Addr} {w : World} (HT : Hid (TyIn B n n' c c' A A' name labels kids w)) (hk : kind = 14 ∨ kind = 17) : Calls Try.prog 92 #[.agg #[.int .i64 kind, .string name, .slice A' n' c', .slice A n c]] w fun e w' => ∃ v, e = .returned v ∧ Rep w' w'.heap.size (.row 4 ((Ty.cases ⟨kind, name, labels, kids⟩).flatMap Ty.pd)) v ∧ Below w.heap.size w w' := by
  have HF := Lib.hid (show Ty.cases ⟨kind, name, labels, kids⟩ = kids by rw [Ty.cases, if_neg (by omega), if_pos hk])
  rw [HF.out]
  have hn := HT.out.hn
  rcases hk with rfl | rfl
  all_goals
    go_enter Try.func92, Try.ntmps92
    go_wp2_with fail
    go_ret
    exact ⟨_, rfl, (HT.out.RK.below ((Below.refl _ _).alloc HT.out.hB _)).more (by have := HT.out.hB; simp; omega), (Below.refl _ _).alloc (Nat.le_refl _) _⟩
theorem specCases_0 {kind : Int} {name : ByteArray} {labels : List ByteArray} {kids : List Ty} {B n n' c c' : Nat} {A A' : Option Addr} {w : World} (HT : Hid (TyIn B n n' c c' A A' name labels kids w)) (k13 : (kind == 13) = false) (k14 : (kind == 14) = false) (k17 : (kind == 17) = false) : Calls Try.prog 92 #[.agg #[.int .i64 kind, .string name, .slice A' n' c', .slice A n c]] w fun e w' => ∃ v, e = .returned v ∧ Rep w' w'.heap.size (.row 4 ((Ty.cases ⟨kind, name, labels, kids⟩).flatMap Ty.pd)) v ∧ Below w.heap.size w w' := by
  have HF := Lib.hid (show Ty.cases ⟨kind, name, labels, kids⟩ = [] by simp at k13 k14 k17; rw [Ty.cases, if_neg (by omega), if_neg (by omega)])
  rw [HF.out]
  go_enter Try.func92, Try.ntmps92
  go_wp2_with fail
  go_ret
  exact ⟨_, rfl, nil_row, (Below.refl _ _).alloc (Nat.le_refl _) _⟩

set_option maxHeartbeats 1600000 in
theorem implCases_13 {kind : Int} {name : ByteArray} {labels : List ByteArray} {kids : List Ty} {B n n' c c' : Nat} {A A' : Option Addr} {w : World} (HT : Hid (TyIn B n n' c c' A A' name labels kids w)) (hk : kind = 13) (hl : kids.length = 1) : Calls Try.prog 94 #[.agg #[.int .i64 kind, .string name, .slice A' n' c', .slice A n c]] w fun e w' => ∃ v, e = .returned v ∧ Rep w' w'.heap.size (.row 4 ((Ty.cases ⟨kind, name, labels, kids⟩).flatMap Ty.pd)) v ∧ Below w.heap.size w w' := by
  subst hk
  obtain ⟨t, ht⟩ := List.length_eq_one_iff.1 hl
  have hxk : kids[0]? = some t := by rw [ht]; rfl
  have HF := Lib.hid (show Ty.cases ⟨13, name, labels, kids⟩ = [unitT, t] by rw [Ty.cases, if_pos rfl, ht])
  have hn1 : n = 1 := HT.out.HN.trans hl
  have hn : n ≤ 9223372036854775807 := HT.out.hn
  clear ht hl
  obtain ⟨g, off, rfl, hg, hcell⟩ := rep_row_at Ty.pd_length (by decide) HT.out.RK (by omega)
  subst hn1
  obtain ⟨kind2, name2, labels2, kids2⟩ := t
  have hHB := HT.out.hB
  obtain ⟨w0, hw0⟩ : ∃ W, W = w.alloc (.cells #[.int .i64 13, .string name, .slice A' n' c', .slice (some ⟨g, off, none⟩) 1 c] 51) := ⟨_, rfl⟩
  have hB0 : Below w.heap.size w w0 := by rw [hw0]; exact (Below.refl _ _).alloc (Nat.le_refl _) _
  have c0 : w0.cell? ⟨g, off, none⟩ = some (.int .i64 kind2) := by have := cell_lit (B := B) hB0 (by omega) (hcell 0 0 _ _ hxk (by rw [Ty.pd_mk]; rfl)); simpa using this
  have c1 : w0.cell? ⟨g, off + 1, none⟩ = some (.string name2) := by have := cell_lit (B := B) hB0 (by omega) (hcell 0 1 _ _ hxk (by rw [Ty.pd_mk]; rfl)); simpa using this
  obtain ⟨labelsV2, c2', r2⟩ : ∃ u, w0.cell? ⟨g, off + 2, none⟩ = some u ∧ Rep w0 B (.row 1 (labels2.flatMap strC)) u := by have := cell_rep (B := B) hB0 (by omega) hHB (hcell 0 2 _ _ hxk (by rw [Ty.pd_mk]; rfl)); simpa using this
  obtain ⟨kidsV2, c3', r3⟩ : ∃ u, w0.cell? ⟨g, off + 3, none⟩ = some u ∧ Rep w0 B (.row 4 (kids2.flatMap Ty.pd)) u := by have := cell_rep (B := B) hB0 (by omega) hHB (hcell 0 3 _ _ hxk (by rw [Ty.pd_mk]; rfl)); simpa using this
  have R2 := Lib.hid r2
  have R3 := Lib.hid r3
  clear r2 r3 hcell hxk
  have hs0 : w0.heap.size = w.heap.size + 1 := by rw [hw0]; simp
  subst hw0
  go_enter Try.func94, Try.ntmps94
  go_wp2_with fail
  go_ret
  rw [HF.out]
  have bK := Blk.new (w.alloc (.cells #[.int .i64 13, .string name, .slice A' n' c', .slice (some ⟨g, off, none⟩) 1 c] 51)) 51 #[.int .i64 1, .string (ByteArray.mk #[]), .slice none 0 0, .slice none 0 0, .int .i64 kind2, .string name2, labelsV2, kidsV2]
  rw [hs0] at bK
  have hb1 := (Below.refl w.heap.size (w.alloc (.cells #[.int .i64 13, .string name, .slice A' n' c', .slice (some ⟨g, off, none⟩) 1 c] 51))).alloc (by rw [hs0]; omega) (.cells #[.int .i64 1, .string (ByteArray.mk #[]), .slice none 0 0, .slice none 0 0, .int .i64 kind2, .string name2, labelsV2, kidsV2] 51)
  have hs1 := hb1.size
  exact ⟨_, rfl, pair_row bK ((R2.out.below (hb1.mono hHB)).more (by omega)) ((R3.out.below (hb1.mono hHB)).more (by omega)), hB0.trans hb1⟩

set_option maxHeartbeats 1600000 in
theorem implCases_14 {kind : Int} {name : ByteArray} {labels : List ByteArray} {kids : List Ty} {B n n' c c' : Nat} {A A' : Option Addr} {w : World} (HT : Hid (TyIn B n n' c c' A A' name labels kids w)) (hk : kind = 14 ∨ kind = 17) : Calls Try.prog 94 #[.agg #[.int .i64 kind, .string name, .slice A' n' c', .slice A n c]] w fun e w' => ∃ v, e = .returned v ∧ Rep w' w'.heap.size (.row 4 ((Ty.cases ⟨kind, name, labels, kids⟩).flatMap Ty.pd)) v ∧ Below w.heap.size w w' := by
  have HF := Lib.hid (show Ty.cases ⟨kind, name, labels, kids⟩ = kids by rw [Ty.cases, if_neg (by omega), if_pos hk])
  rw [HF.out]
  have hn := HT.out.hn
  rcases hk with rfl | rfl
  all_goals
    go_enter Try.func94, Try.ntmps94
    go_wp2_with fail
    go_ret
    exact ⟨_, rfl, (HT.out.RK.below ((Below.refl _ _).alloc HT.out.hB _)).more (by have := HT.out.hB; simp; omega), (Below.refl _ _).alloc (Nat.le_refl _) _⟩
theorem implCases_0 {kind : Int} {name : ByteArray} {labels : List ByteArray} {kids : List Ty} {B n n' c c' : Nat} {A A' : Option Addr} {w : World} (HT : Hid (TyIn B n n' c c' A A' name labels kids w)) (k13 : (kind == 13) = false) (k14 : (kind == 14) = false) (k17 : (kind == 17) = false) : Calls Try.prog 94 #[.agg #[.int .i64 kind, .string name, .slice A' n' c', .slice A n c]] w fun e w' => ∃ v, e = .returned v ∧ Rep w' w'.heap.size (.row 4 ((Ty.cases ⟨kind, name, labels, kids⟩).flatMap Ty.pd)) v ∧ Below w.heap.size w w' := by
  have HF := Lib.hid (show Ty.cases ⟨kind, name, labels, kids⟩ = [] by simp at k13 k14 k17; rw [Ty.cases, if_neg (by omega), if_neg (by omega)])
  rw [HF.out]
  go_enter Try.func94, Try.ntmps94
  go_wp2_with fail
  go_ret
  exact ⟨_, rfl, nil_row, (Below.refl _ _).alloc (Nat.le_refl _) _⟩

theorem specCases_any (t : Ty) {B : Nat} {cs : List Value} {w : World} (hB : B ≤ w.heap.size) (hwf : PD.wfL (Ty.pd t)) (hs : t.shapes = true) (h : RepC w B (Ty.pd t) cs) :
    Calls Try.prog 92 #[.agg cs.toArray] w fun e w' => ∃ v, e = .returned v ∧ Rep w' w'.heap.size (.row 4 (t.cases.flatMap Ty.pd)) v ∧ Below w.heap.size w w' := by
  obtain ⟨kind, name, labels, kids⟩ := t
  obtain ⟨A, n, c, A', n', c', rfl, ht⟩ := tyIn hB hwf h
  by_cases h13 : kind = 13
  · have hk := (shapes_right hs).1
    rw [kidsRight, if_pos (.inr h13), Bool.and_eq_true, decide_eq_true_iff] at hk
    exact specCases_13 (Lib.hid ht) h13 hk.1
  by_cases h14 : kind = 14 ∨ kind = 17
  · exact specCases_14 (Lib.hid ht) h14
  · exact specCases_0 (Lib.hid ht) (by simpa using h13) (by simp; omega) (by simp; omega)

theorem implCases_any (t : Ty) {B : Nat} {cs : List Value} {w : World} (hB : B ≤ w.heap.size) (hwf : PD.wfL (Ty.pd t)) (hs : t.shapes = true) (h : RepC w B (Ty.pd t) cs) :
    Calls Try.prog 94 #[.agg cs.toArray] w fun e w' => ∃ v, e = .returned v ∧ Rep w' w'.heap.size (.row 4 (t.cases.flatMap Ty.pd)) v ∧ Below w.heap.size w w' := by
  obtain ⟨kind, name, labels, kids⟩ := t
  obtain ⟨A, n, c, A', n', c', rfl, ht⟩ := tyIn hB hwf h
  by_cases h13 : kind = 13
  · have hk := (shapes_right hs).1
    rw [kidsRight, if_pos (.inr h13), Bool.and_eq_true, decide_eq_true_iff] at hk
    exact implCases_13 (Lib.hid ht) h13 hk.1
  by_cases h14 : kind = 14 ∨ kind = 17
  · exact implCases_14 (Lib.hid ht) h14
  · exact implCases_0 (Lib.hid ht) (by simpa using h13) (by simp; omega) (by simp; omega)

end Go.Proofs.Ytmmeaakhikcigaa

