/-
  The program's well-formed modules: coreOk, wordsOk.
-/
import Derived.Test.YtflpfcnpjadccaaGreatDoorMoSpec
import Derived.Test.YtflpfcnpjadccaaGreatDoorFnIdx
import Derived.Test.YtflpfcnpjadccaaGreatDoorSorted
namespace Go.Proofs.YtflpfcnpjadccaaGreatDoor
open Go.RowKit
set_option linter.unusedVariables false
set_option linter.unusedSimpArgs false
set_option linter.unnecessarySimpa false
theorem coreOk1_enter (a : Array Value) (W : World) : Sem.run Tryz.prog (callFunc 74 a) W = .ok (.enter 74 a) W := by kernel_rfl
theorem coreOk1_any (t : Ins) {B : Nat} {cs : List Value} {w : World} (h : RepC w B (Ins.pd t) cs) :
    Calls Tryz.prog 74 (#[.agg cs.toArray] ++ #[]) w fun e w' => e = .returned (.bool (!insB t)) ∧ Below w.heap.size w w' := by
  obtain ⟨op, a⟩ := t
  obtain rfl := Ins.open_ h
  clear h
  obtain ⟨R, hR⟩ : ∃ R : Bool, R = insB ⟨op, a⟩ := ⟨_, rfl⟩
  rw [← hR]
  have HR : Hid (insOk op a = R) := hR.symm
  clear hR
  go_enter Tryz.func74, Tryz.ntmps74
  go_wp2_with fail
  obtain ⟨w0, hw0⟩ : ∃ W, W = w.alloc (.cells #[.int .i64 op, .int .i64 a] 76) := ⟨_, rfl⟩
  rw [← hw0]
  have hB0 : Below w.heap.size w w0 := by rw [hw0]; exact (Below.refl _ _).alloc (Nat.le_refl _) _
  clear hw0
  refine (implInsOk_any op a _).mono ?_
  rintro e w1 ⟨rfl, hb1⟩
  rw [HR.out]
  go_wp2_with fail
  go_ret
  exact ⟨rfl, hB0.trans (hb1.mono hB0.size)⟩
theorem wordsOk1_enter (a : Array Value) (W : World) : Sem.run Tryz.prog (callFunc 78 a) W = .ok (.enter 78 a) W := by kernel_rfl
theorem wordsOk1_any (s : ByteArray) (hs : s.size ≤ maxLen) (w : World) :
    Calls Tryz.prog 78 (#[.string s] ++ #[]) w fun e w' => e = .returned (.bool (!wordOk s)) ∧ Below w.heap.size w w' := by
  go_enter Tryz.func78, Tryz.ntmps78
  go_wp2_with fail
  refine (implWordOk_any s hs _).mono ?_
  rintro e w1 ⟨rfl, rfl⟩
  go_wp2_with fail
  go_ret
  exact ⟨rfl, Below.refl _ _⟩
set_option maxHeartbeats 1600000 in
theorem wordsOk_any {B : Nat} {v : Value} {zs : List ByteArray} {w : World} (hB : B ≤ w.heap.size) (hz : zs.length ≤ 1048576) (hs : ∀ s ∈ zs, s.size ≤ maxLen) (h : Rep w B (.row 1 (zs.flatMap strC)) v) :
    Calls Tryz.prog 48 #[v] w fun e w' => e = .returned (.bool (namesB zs)) ∧ Below w.heap.size w w' := by
  obtain ⟨A, n, c, rfl⟩ := h.form
  have HR := Lib.hid h
  have HS := Lib.hid hs
  clear h hs
  obtain ⟨R, hR⟩ : ∃ R : Bool, R = namesB zs := ⟨_, rfl⟩
  rw [← hR]
  have HV : Hid (R = (decide zs.Nodup && !zs.any fun n => !wordOk n)) := hR
  clear hR
  go_enter Tryz.func48, Tryz.ntmps48
  go_wp2_with fail
  refine (distinct_any hB hz HR.out).mono ?_
  rintro e w1 ⟨rfl, hb1⟩
  cases hd : decide zs.Nodup
  · have HF : Hid (R = false) := by show _ = _; rw [HV.out, hd]; rfl
    go_wp2_with fail
    go_ret
    exact ⟨ret_bool HF.out.symm, hb1⟩
  · have HF : Hid (R = !zs.any fun n => !wordOk n) := by show _ = _; rw [HV.out, hd]; rfl
    clear hd
    go_wp2_with fail
    refine (hasStringS_any 78 #[] (fun t => !wordOk t) (Nat.le_trans hB hb1.size) (HR.out.below (hb1.mono hB)) wordsOk1_enter (fun t ht W hW => wordsOk1_any t (HS.out t ht) W)).mono ?_
    rintro e w2 ⟨rfl, hb2⟩
    go_wp2_with fail
    go_ret
    exact ⟨ret_bool HF.out.symm, hb1.trans (hb2.mono hb1.size)⟩
set_option maxHeartbeats 1600000 in
theorem implCore_any (t : Core) {B : Nat} {cs : List Value} {w : World} (hB : B ≤ w.heap.size) (h : RepC w B (Core.pd t) cs) :
    Calls Tryz.prog 47 #[.agg cs.toArray] w fun e w' => e = .returned (.bool (coreB t)) ∧ Below w.heap.size w w' := by
  obtain ⟨name, params, locals, result, code⟩ := t
  obtain ⟨R, hR⟩ : ∃ R : Bool, R = coreB ⟨name, params, locals, result, code⟩ := ⟨_, rfl⟩
  have hR' := hR
  rw [coreB] at hR'
  simp only at hR'
  rw [← hR]
  have HR := Lib.hid hR'
  clear hR hR'
  obtain ⟨codeV, rfl, r_code⟩ := Core.open_ h
  have R_code := Lib.hid r_code
  clear r_code
  obtain ⟨A, n, c, rfl, hnl, hm, hat⟩ := rep_row Ins.pd_length (by decide) R_code.out
  unfold maxLen at hm
  have HN := Lib.hid hnl
  clear h hnl hat
  go_enter Tryz.func47, Tryz.ntmps47
  go_wp2_with fail
  obtain ⟨w0, hw0⟩ : ∃ W, W = w.alloc (.cells #[.string name, .int .i64 params, .int .i64 locals, .bool result, .slice A n c] 51) := ⟨_, rfl⟩
  rw [← hw0]
  have bA : Blk w0 w.heap.size 51 #[.string name, .int .i64 params, .int .i64 locals, .bool result, .slice A n c] := by rw [hw0]; exact Blk.new w _ _
  have hB0 : Below w.heap.size w w0 := by rw [hw0]; exact (Below.refl _ _).alloc (Nat.le_refl _) _
  clear hw0
  have a0_0 : w0.cell? ⟨w.heap.size, 0, none⟩ = some (.string name) := bA.cell 0
  have a0_1 : w0.cell? ⟨w.heap.size, 1, none⟩ = some (.int .i64 params) := bA.cell 1
  have a0_2 : w0.cell? ⟨w.heap.size, 2, none⟩ = some (.int .i64 locals) := bA.cell 2
  have a0_4 : w0.cell? ⟨w.heap.size, 4, none⟩ = some (.slice A n c) := bA.cell 4
  try go_wp2_with fail
  refine (within_any _ _ _ _).mono ?_
  rintro e w1 ⟨rfl, rfl⟩
  cases hp : inB params 0 8
  · have HF : Hid (R = false) := by show _ = _; rw [HR.out, hp]; rfl
    go_wp2_with fail
    go_ret
    exact ⟨ret_bool HF.out.symm, hB0⟩
  go_wp2_with fail
  refine (within_any _ _ _ _).mono ?_
  rintro e w1 ⟨rfl, rfl⟩
  cases hl : inB locals 0 8
  · have HF : Hid (R = false) := by show _ = _; rw [HR.out, hp, hl]; rfl
    go_wp2_with fail
    go_ret
    exact ⟨ret_bool HF.out.symm, hB0⟩
  by_cases hn : n ≤ 120
  case neg =>
    have HF : Hid (R = false) := by show _ = _; rw [HR.out, hp, hl, decide_eq_false (by have := HN.out; omega)]; rfl
    go_wp2_with fail
    go_ret
    exact ⟨ret_bool HF.out.symm, hB0⟩
  have HF : Hid (R = !code.any fun i => !insB i) := by show _ = _; rw [HR.out, hp, hl, decide_eq_true (by have := HN.out; omega)]; rfl
  clear hp hl HR
  go_wp2_with fail
  refine (hasInsS_any 74 #[] (fun i => !insB i) (Nat.le_trans hB hB0.size) (R_code.out.below (hB0.mono hB)) coreOk1_enter (fun t ht cs W hW hr => coreOk1_any t hr)).mono ?_
  rintro e w2 ⟨rfl, hb2⟩
  go_wp2_with fail
  go_ret
  exact ⟨ret_bool HF.out.symm, hB0.trans (hb2.mono hB0.size)⟩
end Go.Proofs.YtflpfcnpjadccaaGreatDoor

