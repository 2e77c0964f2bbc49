/-
  BlocksOf: the contracts that the law's walk asks for.
-/
import Derived.Test.YtnedcpoengcbaaaBlkW
namespace Go.Proofs.Ytnedcpoengcbaaa
open Go.RowKit
set_option linter.unusedVariables false
set_option linter.unusedSimpArgs false
set_option linter.unnecessarySimpa false

theorem blkR_cnt (c : Core) : PD.cnt (.row 5 ((blkR c).1.flatMap CodeBlock.pd)) ≤ 1099511627775 := by
  have hc : ∀ l : List CodeBlock, PD.cntL (l.flatMap CodeBlock.pd) = 5 * l.length := by
    intro l
    induction l with
    | nil => rfl
    | cons t l ih => rw [List.flatMap_cons, cntL_append, ih, List.length_cons]; simp only [CodeBlock.pd, PD.cntL, PD.cnt]; omega
  rw [PD.cnt, hc]
  rw [blkR]
  split
  · rename_i h
    have hl := run_len (E := -1) (code := c.code) (l := c.code) (k := 0) (bs := []) (op := []) (by simp)
    have h2 : c.code.length ≤ 120 := by
      rw [Bool.and_eq_true, coreB] at h
      simp only [Bool.and_eq_true, decide_eq_true_eq] at h
      exact h.2.2.2.1
    omega
  · simp
theorem rep_of_core {w : World} {B : Nat} {name : ByteArray} {params locals : Int} {result : Bool} {code : List Ins} {a b c d v : Value} (h : RepC w B (Core.pd ⟨name, params, locals, result, code⟩) [a, b, c, d, v]) : Rep w B (.row 2 (code.flatMap Ins.pd)) v := h.2 4 _ _ rfl rfl
theorem blkR_no {c : Core} (h : (wordOk c.name && coreB c) = false) : blkR c = ([], 0, 1) := by rw [blkR, if_neg (by simp [h])]
theorem blkR_yes {c : Core} (h : (wordOk c.name && coreB c) = true) : blkR c = blkRun (-1) c.code 0 [] [] c.code := by rw [blkR, if_pos h]
theorem core_len {c : Core} (h : (wordOk c.name && coreB c) = true) : c.code.length ≤ 120 := by
  rw [Bool.and_eq_true, coreB] at h
  simp only [Bool.and_eq_true, decide_eq_true_eq] at h
  exact h.2.2.2.1
def BlkP (w : World) (r : List CodeBlock × Int × Int) (e : Ending) (w' : World) : Prop := ∃ u, e = .returned (.tuple #[u, .int .i64 r.2.1, .int .i64 r.2.2]) ∧ Lv w' w.heap.size w'.heap.size (.row 5 (r.1.flatMap CodeBlock.pd)) u ∧ Below w.heap.size w w'
theorem run_err {E : Int} {code : List Ins} : ∀ {l : List Ins} {k : Nat} {bs : List CodeBlock} {op : List Nat}, (blkRun E code k bs op l).2.2 ≠ 0 → (blkRun E code k bs op l).1 = []
  | [], k, bs, op, h => by
    rw [blkRun] at h ⊢
    split
    · rename_i ho; rw [if_pos ho] at h; exact absurd rfl h
    · rfl
  | i :: r, k, bs, op, h => by
    rw [blkRun] at h ⊢
    split
    · rename_i ho; rw [if_pos ho] at h; exact run_err h
    · rfl
theorem run_zero {E : Int} {code : List Ins} : ∀ {l : List Ins} {k : Nat} {bs : List CodeBlock} {op : List Nat}, (blkRun E code k bs op l).2.2 = 0 → (blkRun E code k bs op l).2.1 = 0
  | [], k, bs, op, h => by
    rw [blkRun] at h ⊢
    split
    · rfl
    · rename_i ho; rw [if_neg ho] at h; cases h
  | i :: r, k, bs, op, h => by
    rw [blkRun] at h ⊢
    split
    · rename_i ho; rw [if_pos ho] at h; exact run_zero h
    · rename_i ho; rw [if_neg ho] at h; exact absurd h ho
set_option maxHeartbeats 3200000 in
theorem specBlocksOf_p (t : Core) (hwf : PD.wfL (Core.pd t)) (hsz : PD.szL (Core.pd t) ≤ 1048576) : ∀ (B : Nat) (cs : List Value) (w : World), B ≤ w.heap.size → RepC w B (Core.pd t) cs →
    Calls Try.prog 17 #[.agg cs.toArray] w fun e w' => BlkP w (blkR t) e w' := by
  intro B cs w hB h
  obtain ⟨name, params, locals, result, code⟩ := t
  obtain ⟨codeV, rfl, hr⟩ := Core.open_ h
  obtain ⟨A, n, c, rfl⟩ := hr.form
  obtain ⟨w0, hw0⟩ : ∃ W, W = w.alloc (.cells #[.string name, .int .i64 params, .int .i64 locals, .bool result, .slice A n c] 55) := ⟨_, rfl⟩
  have bP : Blk w0 w.heap.size 55 #[.string name, .int .i64 params, .int .i64 locals, .bool result, .slice A n c] := by rw [hw0]; exact Blk.new w _ _
  have hB0 : Below w.heap.size w w0 := by rw [hw0]; exact (Below.refl _ _).alloc (Nat.le_refl _) _
  have HW := Lib.hid hw0
  have HH := Lib.hid (RepC.more (RepC.below h (hB0.mono hB)) (Nat.le_trans hB hB0.size))
  have HWF := Lib.hid hwf
  have e0 : w0.cell? ⟨w.heap.size, 0, none⟩ = some (.string name) := bP.cell 0
  have e1 : w0.cell? ⟨w.heap.size, 1, none⟩ = some (.int .i64 params) := bP.cell 1
  have e2 : w0.cell? ⟨w.heap.size, 2, none⟩ = some (.int .i64 locals) := bP.cell 2
  have e3 : w0.cell? ⟨w.heap.size, 3, none⟩ = some (.bool result) := bP.cell 3
  have e4 : w0.cell? ⟨w.heap.size, 4, none⟩ = some (.slice A n c) := bP.cell 4
  clear hw0 h hwf hr
  go_enter Try.func17, Try.ntmps17
  go_wp2_with fail
  rw [← HW.out]
  try go_wp2_with fail
  refine (specCore_any (⟨name, params, locals, result, code⟩ : Core) (Nat.le_refl _) HWF.out HH.out).mono ?_
  rintro e w1 ⟨rfl, hb1⟩
  have bP1 := bP.step hb1
  have hB1 := hB0.trans (hb1.mono hB0.size)
  have hs1 := hB1.size
  have e0' : w1.cell? ⟨w.heap.size, 0, none⟩ = some (.string name) := bP1.cell 0
  have e1' : w1.cell? ⟨w.heap.size, 1, none⟩ = some (.int .i64 params) := bP1.cell 1
  have e2' : w1.cell? ⟨w.heap.size, 2, none⟩ = some (.int .i64 locals) := bP1.cell 2
  have e3' : w1.cell? ⟨w.heap.size, 3, none⟩ = some (.bool result) := bP1.cell 3
  have e4' : w1.cell? ⟨w.heap.size, 4, none⟩ = some (.slice A n c) := bP1.cell 4
  cases hok : (wordOk name && coreB ⟨name, params, locals, result, code⟩)
  case false =>
    have HF := Lib.hid (blkR_no (c := ⟨name, params, locals, result, code⟩) hok)
    clear hok
    go_wp2_with fail
    go_ret3
    unfold BlkP
    rw [HF.out]
    exact ⟨_, rfl, nil_cb _ _ (by simp; omega) _ _ (by decide), hB1.alloc hs1 _⟩
  have HF := Lib.hid (blkR_yes (c := ⟨name, params, locals, result, code⟩) hok)
  have hlen := core_len (c := ⟨name, params, locals, result, code⟩) hok
  have HRC := Lib.hid (rep_of_core (HH.out.below hb1))
  have HRM := Lib.hid (Rep.more (B' := w1.heap.size) hb1.size _ _ HRC.out)
  have hnl : n ≤ 120 := by have := (ins_rep HRM.out).1; simp only at hlen; omega
  clear hok hlen
  go_wp2_with fail
  refine (specBlocks_any HRM.out hnl).mono ?_
  rintro e w2 ⟨u, rfl, hL, hb2⟩
  obtain ⟨uA, uN, uC, rfl⟩ := hL.is.form
  have hB2 := hB1.trans (hb2.mono hs1)
  have hs2 := hB2.size
  have HL := Lib.hid hL
  obtain ⟨rr, hrr⟩ : ∃ r, r = blkRun (-1) code 0 [] [] code := ⟨_, rfl⟩
  have HE : Hid (rr.2.2 ≠ 0 → rr.1 = []) := by show _ → _; rw [hrr]; exact run_err
  have HZ : Hid (rr.2.2 = 0 → rr.2.1 = 0) := by show _ → _; rw [hrr]; exact run_zero
  rw [← hrr] at HL ⊢
  have HFR : Hid (blkR ⟨name, params, locals, result, code⟩ = rr) := HF.out.trans hrr.symm
  obtain ⟨rl, r1, r2⟩ := rr
  clear hL hrr
  by_cases h0 : r2 = 0
  · have hz := HZ.out h0
    simp only at hz
    subst h0 hz
    go_wp2_with fail
    go_ret3
    unfold BlkP
    rw [HFR.out]
    refine ⟨_, rfl, ?_, hB2⟩
    obtain ⟨F, f1, f2, f3⟩ := HL.out
    exact ⟨F, f1, f2.more hs1 (Nat.le_refl _), f3⟩
  · have hd : (r2 != 0) = true := by simpa using h0
    have he := HE.out h0
    simp only at he
    subst he
    clear h0
    go_wp2_with fail
    go_ret3
    unfold BlkP
    rw [HFR.out]
    exact ⟨_, rfl, nil_cb _ _ (by simp; omega) _ _ (by decide), hB2.alloc hs2 _⟩
set_option maxHeartbeats 3200000 in
theorem implBlocksOf_p (t : Core) (hwf : PD.wfL (Core.pd t)) (hsz : PD.szL (Core.pd t) ≤ 1048576) : ∀ (B : Nat) (cs : List Value) (w : World), B ≤ w.heap.size → RepC w B (Core.pd t) cs →
    Calls Try.prog 19 #[.agg cs.toArray] w fun e w' => BlkP w (blkR t) e w' := by
  intro B cs w hB h
  obtain ⟨name, params, locals, result, code⟩ := t
  obtain ⟨codeV, rfl, hr⟩ := Core.open_ h
  obtain ⟨A, n, c, rfl⟩ := hr.form
  obtain ⟨w0, hw0⟩ : ∃ W, W = w.alloc (.cells #[.string name, .int .i64 params, .int .i64 locals, .bool result, .slice A n c] 55) := ⟨_, rfl⟩
  have bP : Blk w0 w.heap.size 55 #[.string name, .int .i64 params, .int .i64 locals, .bool result, .slice A n c] := by rw [hw0]; exact Blk.new w _ _
  have hB0 : Below w.heap.size w w0 := by rw [hw0]; exact (Below.refl _ _).alloc (Nat.le_refl _) _
  have HW := Lib.hid hw0
  have HH := Lib.hid (RepC.more (RepC.below h (hB0.mono hB)) (Nat.le_trans hB hB0.size))
  have hsm := coreWf hwf
  have e0 : w0.cell? ⟨w.heap.size, 0, none⟩ = some (.string name) := bP.cell 0
  have e1 : w0.cell? ⟨w.heap.size, 1, none⟩ = some (.int .i64 params) := bP.cell 1
  have e2 : w0.cell? ⟨w.heap.size, 2, none⟩ = some (.int .i64 locals) := bP.cell 2
  have e3 : w0.cell? ⟨w.heap.size, 3, none⟩ = some (.bool result) := bP.cell 3
  have e4 : w0.cell? ⟨w.heap.size, 4, none⟩ = some (.slice A n c) := bP.cell 4
  clear hw0 h hr hwf
  go_enter Try.func19, Try.ntmps19
  go_wp2_with fail
  rw [← HW.out]
  try go_wp2_with fail
  refine (implCore_any (⟨name, params, locals, result, code⟩ : Core) (Nat.le_refl _) HH.out).mono ?_
  rintro e w1 ⟨rfl, hb1⟩
  have bP1 := bP.step hb1
  have hB1 := hB0.trans (hb1.mono hB0.size)
  have hs1 := hB1.size
  have e0' : w1.cell? ⟨w.heap.size, 0, none⟩ = some (.string name) := bP1.cell 0
  have e1' : w1.cell? ⟨w.heap.size, 1, none⟩ = some (.int .i64 params) := bP1.cell 1
  have e2' : w1.cell? ⟨w.heap.size, 2, none⟩ = some (.int .i64 locals) := bP1.cell 2
  have e3' : w1.cell? ⟨w.heap.size, 3, none⟩ = some (.bool result) := bP1.cell 3
  have e4' : w1.cell? ⟨w.heap.size, 4, none⟩ = some (.slice A n c) := bP1.cell 4
  cases hk : coreB ⟨name, params, locals, result, code⟩
  case false =>
    have HF := Lib.hid (blkR_no (c := ⟨name, params, locals, result, code⟩) (by rw [hk, Bool.and_false]))
    clear hk
    go_wp2_with fail
    go_ret3
    unfold BlkP
    rw [HF.out]
    exact ⟨_, rfl, nil_cb _ _ hs1 _ _ (by decide), hB1⟩
  go_wp2_with fail
  refine (implWordOk_any name hsm _).mono ?_
  rintro e w' ⟨rfl, rfl⟩
  cases hw : wordOk name
  case false =>
    have HF := Lib.hid (blkR_no (c := ⟨name, params, locals, result, code⟩) (by simp only; rw [hw, Bool.false_and]))
    clear hk hw
    go_wp2_with fail
    go_ret3
    unfold BlkP
    rw [HF.out]
    exact ⟨_, rfl, nil_cb _ _ hs1 _ _ (by decide), hB1⟩
  have hok : (wordOk name && coreB ⟨name, params, locals, result, code⟩) = true := by rw [hk, hw]; rfl
  have HF := Lib.hid ((blkR_yes (c := ⟨name, params, locals, result, code⟩) hok).trans (run_same (-1) 0 code))
  have hlen := core_len (c := ⟨name, params, locals, result, code⟩) hok
  have HRC := Lib.hid (rep_of_core (HH.out.below hb1))
  have HRM := Lib.hid (Rep.more (B' := w1.heap.size) hb1.size _ _ HRC.out)
  have hnl : n ≤ 120 := by have := (ins_rep HRM.out).1; simp only at hlen; omega
  clear hok hlen hk hw
  go_wp2_with fail
  refine (implBlocks_any HRM.out hnl).mono ?_
  rintro e w2 ⟨u, rfl, hL, hb2⟩
  have hB2 := hB1.trans (hb2.mono hs1)
  have HL := Lib.hid hL
  clear hL
  go_wp2_with fail
  go_ret3
  unfold BlkP
  rw [HF.out]
  refine ⟨_, rfl, ?_, hB2⟩
  obtain ⟨F, f1, f2, f3⟩ := HL.out
  exact ⟨F, f1, f2.more hs1 (Nat.le_refl _), f3⟩
theorem specBlocksOf_ok (t : Core) (hwf : PD.wfL (Core.pd t)) (hsz : PD.szL (Core.pd t) ≤ 1048576) : ∀ (B : Nat) (cs : List Value) (w : World), B ≤ w.heap.size → RepC w B (Core.pd t) cs →
    Calls Try.prog 17 #[.agg cs.toArray] w fun e w' => ∃ u, e = .returned (.tuple #[u, .int .i64 (blkR t).2.1, .int .i64 (blkR t).2.2]) ∧ Lv w' w.heap.size w'.heap.size (.row 5 ((blkR t).1.flatMap CodeBlock.pd)) u ∧ Below w.heap.size w w' := specBlocksOf_p t hwf hsz
theorem implBlocksOf_ok (t : Core) (hwf : PD.wfL (Core.pd t)) (hsz : PD.szL (Core.pd t) ≤ 1048576) : ∀ (B : Nat) (cs : List Value) (w : World), B ≤ w.heap.size → RepC w B (Core.pd t) cs →
    Calls Try.prog 19 #[.agg cs.toArray] w fun e w' => ∃ u, e = .returned (.tuple #[u, .int .i64 (blkR t).2.1, .int .i64 (blkR t).2.2]) ∧ Lv w' w.heap.size w'.heap.size (.row 5 ((blkR t).1.flatMap CodeBlock.pd)) u ∧ Below w.heap.size w w' := implBlocksOf_p t hwf hsz
end Go.Proofs.Ytnedcpoengcbaaa

