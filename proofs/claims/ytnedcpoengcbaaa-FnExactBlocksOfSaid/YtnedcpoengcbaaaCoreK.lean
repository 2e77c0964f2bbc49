/-
  spec.l15Core and impl.coreOk (by program: gen_corek.py).
-/
import Derived.Test.YtnedcpoengcbaaaFnIdx
import Derived.Test.YtnedcpoengcbaaaFam
import Derived.Test.YtnedcpoengcbaaaTy
import Derived.Test.YtnedcpoengcbaaaIdx
import Derived.Test.YtnedcpoengcbaaaIns
import Derived.Test.YtnedcpoengcbaaaWord
namespace Go.Proofs.Ytnedcpoengcbaaa
open Go.RowKit
set_option linter.unusedVariables false
set_option linter.unusedSimpArgs false
set_option linter.unnecessarySimpa false
def insB (i : Ins) : Bool := insOk i.op i.a
def coreB (c : Core) : Bool := inB c.params 0 8 && (inB c.locals 0 8 && (decide (c.code.length ≤ 120) && !c.code.any fun i => !insB i))
theorem coreWf {name : ByteArray} {params locals : Int} {result : Bool} {code : List Ins} (h : PD.wfL (Core.pd ⟨name, params, locals, result, code⟩)) : name.size ≤ maxLen := by
  rw [Core.pd_mk] at h
  simp only [PD.wfL, PD.wf] at h
  exact h.1
set_option maxHeartbeats 1600000 in
theorem specCore_any (t : Core) {B : Nat} {cs : List Value} {w : World} (hB : B ≤ w.heap.size) (hwf : PD.wfL (Core.pd t)) (h : RepC w B (Core.pd t) cs) :
    Calls Try.prog 47 #[.agg cs.toArray] w fun e w' => e = .returned (.bool (wordOk t.name && coreB t)) ∧ Below w.heap.size w w' := by
  obtain ⟨name, params, locals, result, code⟩ := t
  have hs := coreWf hwf
  obtain ⟨R, hR⟩ : ∃ R : Bool, R = (wordOk name && coreB ⟨name, params, locals, result, code⟩) := ⟨_, rfl⟩
  have hR' := hR
  rw [coreB] at hR'
  simp only at hR'
  rw [show (wordOk (Core.mk name params locals result code).name && coreB ⟨name, params, locals, result, code⟩) = R from hR.symm]
  have HR := Lib.hid hR'
  clear hR hR'
  obtain ⟨codeV, rfl, r_code⟩ := Core.open_ h
  have R_code := Lib.hid r_code
  clear r_code
  obtain ⟨A, n, c, rfl, hnl, hm, hat⟩ := rep_row Ins.pd_length (by decide) R_code.out
  unfold maxLen at hm
  have HN := Lib.hid hnl
  clear h hnl hwf
  go_enter Try.func47, Try.ntmps47
  go_wp2_with fail
  obtain ⟨w0, hw0⟩ : ∃ W, W = w.alloc (.cells #[.string name, .int .i64 params, .int .i64 locals, .bool result, .slice A n c] 55) := ⟨_, rfl⟩
  rw [← hw0]
  have bA : Blk w0 w.heap.size 55 #[.string name, .int .i64 params, .int .i64 locals, .bool result, .slice A n c] := by rw [hw0]; exact Blk.new w _ _
  have hB0 : Below w.heap.size w w0 := by rw [hw0]; exact (Below.refl _ _).alloc (Nat.le_refl _) _
  clear hw0
  have a0_0 : w0.cell? ⟨w.heap.size, 0, none⟩ = some (.string name) := bA.cell 0
  have a0_1 : w0.cell? ⟨w.heap.size, 1, none⟩ = some (.int .i64 params) := bA.cell 1
  have a0_2 : w0.cell? ⟨w.heap.size, 2, none⟩ = some (.int .i64 locals) := bA.cell 2
  have a0_4 : w0.cell? ⟨w.heap.size, 4, none⟩ = some (.slice A n c) := bA.cell 4
  try go_wp2_with fail
  refine (specWord_any name hs _).mono ?_
  rintro e w1 ⟨rfl, rfl⟩
  cases hw : wordOk name
  · have HF : Hid (R = false) := by show _ = _; rw [HR.out, hw, Bool.false_and]
    go_wp2_with fail
    go_ret
    exact ⟨ret_bool HF.out.symm, hB0⟩
  go_wp2_with fail
  refine (l00In_any _ _ _ _).mono ?_
  rintro e w1 ⟨rfl, rfl⟩
  cases hp : inB params 0 8
  · have HF : Hid (R = false) := by show _ = _; rw [HR.out, hw, hp]; rfl
    go_wp2_with fail
    go_ret
    exact ⟨ret_bool HF.out.symm, hB0⟩
  go_wp2_with fail
  refine (l00In_any _ _ _ _).mono ?_
  rintro e w1 ⟨rfl, rfl⟩
  cases hl : inB locals 0 8
  · have HF : Hid (R = false) := by show _ = _; rw [HR.out, hw, hp, hl]; rfl
    go_wp2_with fail
    go_ret
    exact ⟨ret_bool HF.out.symm, hB0⟩
  by_cases hn : n ≤ 120
  case neg =>
    have HF : Hid (R = false) := by show _ = _; rw [HR.out, hw, hp, hl, decide_eq_false (by have := HN.out; omega)]; rfl
    go_wp2_with fail
    go_ret
    exact ⟨ret_bool HF.out.symm, hB0⟩
  have HF : Hid (R = !code.any fun i => !insB i) := by show _ = _; rw [HR.out, hw, hp, hl, decide_eq_true (by have := HN.out; omega)]; rfl
  clear hw hp hl HR
  go_wp2_with fail
  go_loopw [3] (fun i wr => ∃ k : Nat, k ≤ n ∧ i = .int .i64 k ∧ Hid (∀ (j : Nat) (t : Ins), j < k → code[j]? = some t → (fun i => !insB i) t = false) ∧ Below w0.heap.size w0 wr) (fun i _ => n - (intOf i).toNat)
  case atStart => exact ⟨0, Nat.zero_le _, rfl, Lib.hid fun j t h => absurd h (by omega), Below.refl _ _⟩
  case round =>
    obtain ⟨k, hk, rfl, HP, hbr⟩ := hrel
    have hsz := hbr.size
    have hBr := hB0.trans (hbr.mono hB0.size)
    have bR := bA.step hbr
    have b4 : wr.cell? ⟨w.heap.size, 4, none⟩ = some (.slice A n c) := bR.cell 4
    by_cases hlt : k < n
    · obtain ⟨g, off, rfl, hg, hcell⟩ := hat (by omega)
      obtain ⟨t, hx, hmem⟩ := at_lt HN.out hlt
      obtain ⟨op, a⟩ := t
      have hbw : Below w.heap.size w wr := hBr
      have c_op : wr.cell? ⟨g, off + k * 2, none⟩ = some (.int .i64 op) := cell_lit hbw (by omega) (hcell k 0 _ _ hx (by rw [Ins.pd_mk]; rfl))
      have c_a : wr.cell? ⟨g, off + k * 2 + 1, none⟩ = some (.int .i64 a) := cell_lit hbw (by omega) (hcell k 1 _ _ hx (by rw [Ins.pd_mk]; rfl))
      have HX := Lib.hid hx
      clear hx hmem hcell
      go_wp2_with fail
      refine (specIns_any op a _).mono ?_
      rintro e w1 ⟨rfl, hb1⟩
      have hbr1 := hbr.trans (hb1.mono hbr.size)
      cases hb : insOk op a
      · have HF2 : Hid (R = false) := by show _ = _; rw [HF.out, any_hit HX.out (by simp [insB, hb])]; rfl
        go_wp2_with fail
        go_ret
        exact ⟨ret_bool HF2.out.symm, hB0.trans (hbr1.mono hB0.size)⟩
      · have HQ := Lib.hid (pre_next HP.out HX.out (by simp [insB, hb]))
        go_wp2_with fail
        go_roundw
        case rel => exact ⟨k + 1, by omega, by go_num, HQ, hbr1⟩
        case measure => simp [intOf]; omega
    · have hkn : k = n := by omega
      have HF2 : Hid (R = true) := by show _ = _; rw [HF.out, any_none (by have := HN.out; omega) HP.out]; rfl
      subst hkn
      go_wp2_with fail
      go_ret
      exact ⟨ret_bool HF2.out.symm, hBr⟩
/-- the slices among these cells have their length within their capacity -/
def CapC (cs : List Value) : Prop := ∀ A n c, Value.slice A n c ∈ cs → n ≤ c
theorem cap_mod {w : World} {lo hi : Nat} {pages : Int} {imports : List Imp} {cores : List Core} {us : List Value} (h : LvC w lo hi (Mod.pd ⟨pages, imports, cores⟩) us) : CapC us := by
  obtain ⟨F, h, _⟩ := h
  rw [Mod.pd_mk, HoldL] at h
  obtain ⟨c1, cs1, F1, F2, rfl, _, h1, h⟩ := h
  rw [HoldL] at h
  obtain ⟨c2, cs2, F3, F4, rfl, _, h2, h⟩ := h
  rw [HoldL] at h
  obtain ⟨c3, cs3, F5, F6, rfl, _, h3, h⟩ := h
  rw [HoldL] at h
  obtain ⟨rfl, _⟩ := h
  obtain ⟨rfl, _⟩ := Hold.of_lit h1
  rw [Hold] at h2 h3
  obtain ⟨A2, n2, e2, rfl, _, k2, _⟩ := h2
  obtain ⟨A3, n3, e3, rfl, _, k3, _⟩ := h3
  intro A n c hm
  simp only [List.mem_cons, List.not_mem_nil, or_false] at hm
  rcases hm with hm | hm | hm
  · cases hm
  · cases hm; exact k2
  · cases hm; exact k3
theorem specWord_v {s : ByteArray} {b : Bool} {w : World} (hs : s.size ≤ maxLen) (h : wordOk s = b) : Calls Try.prog 72 #[.string s] w fun e w' => e = .returned (.bool b) ∧ w' = w := by
  rw [← h]
  exact (specWord_any s hs w).mono fun e w' q => ⟨q.1, q.2.symm⟩
theorem l00In_v {n lo hi : Int} {b : Bool} {w : World} (h : inB n lo hi = b) : Calls Try.prog 73 #[.int .i64 n, .int .i64 lo, .int .i64 hi] w fun e w' => e = .returned (.bool b) ∧ w' = w := by
  rw [← h]
  exact (l00In_any n lo hi w).mono fun e w' q => ⟨q.1, q.2.symm⟩
theorem coreOk1_enter (a : Array Value) (W : World) : Sem.run Try.prog (callFunc 79 a) W = .ok (.enter 79 a) W := by kernel_rfl
theorem coreOk1_any (t : Ins) {B : Nat} {cs : List Value} {w : World} (h : RepC w B (Ins.pd t) cs) :
    Calls Try.prog 79 (#[.agg cs.toArray] ++ #[]) w fun e w' => e = .returned (.bool (!insB t)) ∧ Below w.heap.size w w' := by
  obtain ⟨op, a⟩ := t
  obtain rfl := Ins.open_ h
  clear h
  obtain ⟨R, hR⟩ : ∃ R : Bool, R = insB ⟨op, a⟩ := ⟨_, rfl⟩
  rw [← hR]
  have HR : Hid (insOk op a = R) := hR.symm
  clear hR
  go_enter Try.func79, Try.ntmps79
  go_wp2_with fail
  obtain ⟨w0, hw0⟩ : ∃ W, W = w.alloc (.cells #[.int .i64 op, .int .i64 a] 95) := ⟨_, rfl⟩
  rw [← hw0]
  have hB0 : Below w.heap.size w w0 := by rw [hw0]; exact (Below.refl _ _).alloc (Nat.le_refl _) _
  clear hw0
  refine (implInsOk_any op a _).mono ?_
  rintro e w1 ⟨rfl, hb1⟩
  rw [HR.out]
  go_wp2_with fail
  go_ret
  exact ⟨rfl, hB0.trans (hb1.mono hB0.size)⟩
set_option maxHeartbeats 1600000 in
theorem implCore_any (t : Core) {B : Nat} {cs : List Value} {w : World} (hB : B ≤ w.heap.size) (h : RepC w B (Core.pd t) cs) :
    Calls Try.prog 50 #[.agg cs.toArray] w fun e w' => e = .returned (.bool (coreB t)) ∧ Below w.heap.size w w' := by
  obtain ⟨name, params, locals, result, code⟩ := t
  obtain ⟨R, hR⟩ : ∃ R : Bool, R = coreB ⟨name, params, locals, result, code⟩ := ⟨_, rfl⟩
  have hR' := hR
  rw [coreB] at hR'
  simp only at hR'
  rw [← hR]
  have HR := Lib.hid hR'
  clear hR hR'
  obtain ⟨codeV, rfl, r_code⟩ := Core.open_ h
  have R_code := Lib.hid r_code
  clear r_code
  obtain ⟨A, n, c, rfl, hnl, hm, hat⟩ := rep_row Ins.pd_length (by decide) R_code.out
  unfold maxLen at hm
  have HN := Lib.hid hnl
  clear h hnl hat
  go_enter Try.func50, Try.ntmps50
  go_wp2_with fail
  obtain ⟨w0, hw0⟩ : ∃ W, W = w.alloc (.cells #[.string name, .int .i64 params, .int .i64 locals, .bool result, .slice A n c] 55) := ⟨_, rfl⟩
  rw [← hw0]
  have bA : Blk w0 w.heap.size 55 #[.string name, .int .i64 params, .int .i64 locals, .bool result, .slice A n c] := by rw [hw0]; exact Blk.new w _ _
  have hB0 : Below w.heap.size w w0 := by rw [hw0]; exact (Below.refl _ _).alloc (Nat.le_refl _) _
  clear hw0
  have a0_0 : w0.cell? ⟨w.heap.size, 0, none⟩ = some (.string name) := bA.cell 0
  have a0_1 : w0.cell? ⟨w.heap.size, 1, none⟩ = some (.int .i64 params) := bA.cell 1
  have a0_2 : w0.cell? ⟨w.heap.size, 2, none⟩ = some (.int .i64 locals) := bA.cell 2
  have a0_4 : w0.cell? ⟨w.heap.size, 4, none⟩ = some (.slice A n c) := bA.cell 4
  try go_wp2_with fail
  refine (within_any _ _ _ _).mono ?_
  rintro e w1 ⟨rfl, rfl⟩
  cases hp : inB params 0 8
  · have HF : Hid (R = false) := by show _ = _; rw [HR.out, hp]; rfl
    go_wp2_with fail
    go_ret
    exact ⟨ret_bool HF.out.symm, hB0⟩
  go_wp2_with fail
  refine (within_any _ _ _ _).mono ?_
  rintro e w1 ⟨rfl, rfl⟩
  cases hl : inB locals 0 8
  · have HF : Hid (R = false) := by show _ = _; rw [HR.out, hp, hl]; rfl
    go_wp2_with fail
    go_ret
    exact ⟨ret_bool HF.out.symm, hB0⟩
  by_cases hn : n ≤ 120
  case neg =>
    have HF : Hid (R = false) := by show _ = _; rw [HR.out, hp, hl, decide_eq_false (by have := HN.out; omega)]; rfl
    go_wp2_with fail
    go_ret
    exact ⟨ret_bool HF.out.symm, hB0⟩
  have HF : Hid (R = !code.any fun i => !insB i) := by show _ = _; rw [HR.out, hp, hl, decide_eq_true (by have := HN.out; omega)]; rfl
  clear hp hl HR
  go_wp2_with fail
  refine (hasInsS_any 79 #[] (fun i => !insB i) (Nat.le_trans hB hB0.size) (R_code.out.below (hB0.mono hB)) coreOk1_enter (fun t ht cs W hW hr => coreOk1_any t hr)).mono ?_
  rintro e w2 ⟨rfl, hb2⟩
  go_wp2_with fail
  go_ret
  exact ⟨ret_bool HF.out.symm, hB0.trans (hb2.mono hB0.size)⟩
end Go.Proofs.Ytnedcpoengcbaaa

