/-
  The reference's well-formed modules: l15ImportAt, l15CoreAt, l15Core, l15Shape.
-/
import Derived.Test.YtflpfcnpjadccaaGreatDoorMoMath
import Derived.Test.YtflpfcnpjadccaaGreatDoorFam
namespace Go.Proofs.YtflpfcnpjadccaaGreatDoor
open Go.RowKit
set_option linter.unusedVariables false
set_option linter.unusedSimpArgs false
set_option linter.unnecessarySimpa false
theorem impWf {name : ByteArray} {params : Int} {result : Bool} (h : PD.wfL (Imp.pd ⟨name, params, result⟩)) : name.size ≤ maxLen := by
  rw [Imp.pd_mk] at h
  simp only [PD.wfL, PD.wf] at h
  exact h.1
theorem coreWf {name : ByteArray} {params locals : Int} {result : Bool} {code : List Ins} (h : PD.wfL (Core.pd ⟨name, params, locals, result, code⟩)) : name.size ≤ maxLen := by
  rw [Core.pd_mk] at h
  simp only [PD.wfL, PD.wf] at h
  exact h.1
theorem modWf {pages : Int} {imports : List Imp} {cores : List Core} (h : PD.wfL (Mod.pd ⟨pages, imports, cores⟩)) : (∀ x ∈ imports, PD.wfL (Imp.pd x)) ∧ ∀ c ∈ cores, PD.wfL (Core.pd c) := by
  rw [Mod.pd_mk] at h
  simp only [PD.wfL, PD.wf] at h
  exact ⟨wfL_flatMap.1 h.2.1, wfL_flatMap.1 h.2.2.1⟩
set_option maxHeartbeats 1600000 in
theorem specImportAt_any (x : ByteArray) {B : Nat} {v : Value} {ts : List Imp} {w : World} (h : Rep w B (.row 3 (ts.flatMap Imp.pd)) v) :
    Calls Tryz.prog 38 #[v, .string x] w fun e w' => e = .returned (.int .i64 (idxP (fun y => decide (y.name = x)) ts)) ∧ w = w' := by
  obtain ⟨A, n, c, rfl, hnl, hm, hat⟩ := rep_row Imp.pd_length (by decide) h
  unfold maxLen at hm
  have HN := Lib.hid hnl
  clear h hnl
  go_enter Tryz.func38, Tryz.ntmps38
  go_wp2_with fail
  go_loop [5] (fun i => ∃ k : Nat, k ≤ n ∧ i = .int .i64 k ∧ Hid (∀ (j : Nat) (t : Imp), j < k → ts[j]? = some t → (fun y : Imp => decide (y.name = x)) t = false)) (fun i => n - (intOf i).toNat)
  case atStart => exact ⟨0, Nat.zero_le _, rfl, Lib.hid fun j t h => absurd h (by omega)⟩
  case round =>
    obtain ⟨k, hk, rfl, HP⟩ := hrel
    have hbr := Below.refl B w
    by_cases hlt : k < n
    · obtain ⟨g, off, rfl, hg, hcell⟩ := hat (by omega)
      obtain ⟨t, hx, hmem⟩ := at_lt HN.out hlt
      obtain ⟨name, params, result⟩ := t
      have c_name : w.cell? ⟨g, off + k * 3, none⟩ = some (.string name) := cell_lit hbr (by omega) (hcell k 0 _ _ hx (by rw [Imp.pd_mk]; rfl))
      have HX := Lib.hid hx
      have HM := Lib.hid hmem
      clear hx hmem
      clear hcell
      by_cases hb : name = x
      · have HI : Hid (idxP (fun y : Imp => decide (y.name = x)) ts = (k : Int)) := idxP_hit HP.out HX.out (by simp [hb])
        subst hb
        go_wp2_with fail
        go_ret
        exact ⟨ret_int HI.out.symm, rfl⟩
      · have hs : (name.toList == x.toList) = false := str_ne2 hb
        have HB := Lib.hid (pre_next HP.out HX.out (by simp [hb]))
        clear hb
        go_wp2_with fail
        go_round
        case rel => exact ⟨k + 1, by omega, by go_num, HB⟩
        case measure => simp [intOf]; omega
    · have hkn : k = n := by omega
      subst hkn
      have HI : Hid (idxP (fun y : Imp => decide (y.name = x)) ts = -1) := idxP_none fun j t ht => HP.out j t (by have := (List.getElem?_eq_some_iff.1 ht).1; have := HN.out; omega) ht
      go_wp2_with fail
      go_ret
      exact ⟨ret_int HI.out.symm, rfl⟩
set_option maxHeartbeats 1600000 in
theorem specCoreAt_any (x : ByteArray) {B : Nat} {v : Value} {ts : List Core} {w : World} (h : Rep w B (.row 5 (ts.flatMap Core.pd)) v) :
    Calls Tryz.prog 40 #[v, .string x] w fun e w' => e = .returned (.int .i64 (idxP (fun y => decide (y.name = x)) ts)) ∧ w = w' := by
  obtain ⟨A, n, c, rfl, hnl, hm, hat⟩ := rep_row Core.pd_length (by decide) h
  unfold maxLen at hm
  have HN := Lib.hid hnl
  clear h hnl
  go_enter Tryz.func40, Tryz.ntmps40
  go_wp2_with fail
  go_loop [5] (fun i => ∃ k : Nat, k ≤ n ∧ i = .int .i64 k ∧ Hid (∀ (j : Nat) (t : Core), j < k → ts[j]? = some t → (fun y : Core => decide (y.name = x)) t = false)) (fun i => n - (intOf i).toNat)
  case atStart => exact ⟨0, Nat.zero_le _, rfl, Lib.hid fun j t h => absurd h (by omega)⟩
  case round =>
    obtain ⟨k, hk, rfl, HP⟩ := hrel
    have hbr := Below.refl B w
    by_cases hlt : k < n
    · obtain ⟨g, off, rfl, hg, hcell⟩ := hat (by omega)
      obtain ⟨t, hx, hmem⟩ := at_lt HN.out hlt
      obtain ⟨name, params, locals, result, code⟩ := t
      have c_name : w.cell? ⟨g, off + k * 5, none⟩ = some (.string name) := cell_lit hbr (by omega) (hcell k 0 _ _ hx (by rw [Core.pd_mk]; rfl))
      have HX := Lib.hid hx
      have HM := Lib.hid hmem
      clear hx hmem
      clear hcell
      by_cases hb : name = x
      · have HI : Hid (idxP (fun y : Core => decide (y.name = x)) ts = (k : Int)) := idxP_hit HP.out HX.out (by simp [hb])
        subst hb
        go_wp2_with fail
        go_ret
        exact ⟨ret_int HI.out.symm, rfl⟩
      · have hs : (name.toList == x.toList) = false := str_ne2 hb
        have HB := Lib.hid (pre_next HP.out HX.out (by simp [hb]))
        clear hb
        go_wp2_with fail
        go_round
        case rel => exact ⟨k + 1, by omega, by go_num, HB⟩
        case measure => simp [intOf]; omega
    · have hkn : k = n := by omega
      subst hkn
      have HI : Hid (idxP (fun y : Core => decide (y.name = x)) ts = -1) := idxP_none fun j t ht => HP.out j t (by have := (List.getElem?_eq_some_iff.1 ht).1; have := HN.out; omega) ht
      go_wp2_with fail
      go_ret
      exact ⟨ret_int HI.out.symm, rfl⟩
set_option maxHeartbeats 1600000 in
theorem specCore_any (t : Core) {B : Nat} {cs : List Value} {w : World} (hB : B ≤ w.heap.size) (hwf : PD.wfL (Core.pd t)) (h : RepC w B (Core.pd t) cs) :
    Calls Tryz.prog 39 #[.agg cs.toArray] w fun e w' => e = .returned (.bool (wordOk t.name && coreB t)) ∧ Below w.heap.size w w' := by
  obtain ⟨name, params, locals, result, code⟩ := t
  have hs := coreWf hwf
  obtain ⟨R, hR⟩ : ∃ R : Bool, R = (wordOk name && coreB ⟨name, params, locals, result, code⟩) := ⟨_, rfl⟩
  have hR' := hR
  rw [coreB] at hR'
  simp only at hR'
  rw [show (wordOk (Core.mk name params locals result code).name && coreB ⟨name, params, locals, result, code⟩) = R from hR.symm]
  have HR := Lib.hid hR'
  clear hR hR'
  obtain ⟨codeV, rfl, r_code⟩ := Core.open_ h
  have R_code := Lib.hid r_code
  clear r_code
  obtain ⟨A, n, c, rfl, hnl, hm, hat⟩ := rep_row Ins.pd_length (by decide) R_code.out
  unfold maxLen at hm
  have HN := Lib.hid hnl
  clear h hnl hwf
  go_enter Tryz.func39, Tryz.ntmps39
  go_wp2_with fail
  obtain ⟨w0, hw0⟩ : ∃ W, W = w.alloc (.cells #[.string name, .int .i64 params, .int .i64 locals, .bool result, .slice A n c] 51) := ⟨_, rfl⟩
  rw [← hw0]
  have bA : Blk w0 w.heap.size 51 #[.string name, .int .i64 params, .int .i64 locals, .bool result, .slice A n c] := by rw [hw0]; exact Blk.new w _ _
  have hB0 : Below w.heap.size w w0 := by rw [hw0]; exact (Below.refl _ _).alloc (Nat.le_refl _) _
  clear hw0
  have a0_0 : w0.cell? ⟨w.heap.size, 0, none⟩ = some (.string name) := bA.cell 0
  have a0_1 : w0.cell? ⟨w.heap.size, 1, none⟩ = some (.int .i64 params) := bA.cell 1
  have a0_2 : w0.cell? ⟨w.heap.size, 2, none⟩ = some (.int .i64 locals) := bA.cell 2
  have a0_4 : w0.cell? ⟨w.heap.size, 4, none⟩ = some (.slice A n c) := bA.cell 4
  try go_wp2_with fail
  refine (specWord_any name hs _).mono ?_
  rintro e w1 ⟨rfl, rfl⟩
  cases hw : wordOk name
  · have HF : Hid (R = false) := by show _ = _; rw [HR.out, hw, Bool.false_and]
    go_wp2_with fail
    go_ret
    exact ⟨ret_bool HF.out.symm, hB0⟩
  go_wp2_with fail
  refine (l00In_any _ _ _ _).mono ?_
  rintro e w1 ⟨rfl, rfl⟩
  cases hp : inB params 0 8
  · have HF : Hid (R = false) := by show _ = _; rw [HR.out, hw, hp]; rfl
    go_wp2_with fail
    go_ret
    exact ⟨ret_bool HF.out.symm, hB0⟩
  go_wp2_with fail
  refine (l00In_any _ _ _ _).mono ?_
  rintro e w1 ⟨rfl, rfl⟩
  cases hl : inB locals 0 8
  · have HF : Hid (R = false) := by show _ = _; rw [HR.out, hw, hp, hl]; rfl
    go_wp2_with fail
    go_ret
    exact ⟨ret_bool HF.out.symm, hB0⟩
  by_cases hn : n ≤ 120
  case neg =>
    have HF : Hid (R = false) := by show _ = _; rw [HR.out, hw, hp, hl, decide_eq_false (by have := HN.out; omega)]; rfl
    go_wp2_with fail
    go_ret
    exact ⟨ret_bool HF.out.symm, hB0⟩
  have HF : Hid (R = !code.any fun i => !insB i) := by show _ = _; rw [HR.out, hw, hp, hl, decide_eq_true (by have := HN.out; omega)]; rfl
  clear hw hp hl HR
  go_wp2_with fail
  go_loopw [3] (fun i wr => ∃ k : Nat, k ≤ n ∧ i = .int .i64 k ∧ Hid (∀ (j : Nat) (t : Ins), j < k → code[j]? = some t → (fun i => !insB i) t = false) ∧ Below w0.heap.size w0 wr) (fun i _ => n - (intOf i).toNat)
  case atStart => exact ⟨0, Nat.zero_le _, rfl, Lib.hid fun j t h => absurd h (by omega), Below.refl _ _⟩
  case round =>
    obtain ⟨k, hk, rfl, HP, hbr⟩ := hrel
    have hsz := hbr.size
    have hBr := hB0.trans (hbr.mono hB0.size)
    have bR := bA.step hbr
    have b4 : wr.cell? ⟨w.heap.size, 4, none⟩ = some (.slice A n c) := bR.cell 4
    by_cases hlt : k < n
    · obtain ⟨g, off, rfl, hg, hcell⟩ := hat (by omega)
      obtain ⟨t, hx, hmem⟩ := at_lt HN.out hlt
      obtain ⟨op, a⟩ := t
      have hbw : Below w.heap.size w wr := hBr
      have c_op : wr.cell? ⟨g, off + k * 2, none⟩ = some (.int .i64 op) := cell_lit hbw (by omega) (hcell k 0 _ _ hx (by rw [Ins.pd_mk]; rfl))
      have c_a : wr.cell? ⟨g, off + k * 2 + 1, none⟩ = some (.int .i64 a) := cell_lit hbw (by omega) (hcell k 1 _ _ hx (by rw [Ins.pd_mk]; rfl))
      have HX := Lib.hid hx
      clear hx hmem hcell
      go_wp2_with fail
      refine (specIns_any op a _).mono ?_
      rintro e w1 ⟨rfl, hb1⟩
      have hbr1 := hbr.trans (hb1.mono hbr.size)
      cases hb : insOk op a
      · have HF2 : Hid (R = false) := by show _ = _; rw [HF.out, any_hit HX.out (by simp [insB, hb])]; rfl
        go_wp2_with fail
        go_ret
        exact ⟨ret_bool HF2.out.symm, hB0.trans (hbr1.mono hB0.size)⟩
      · have HQ := Lib.hid (pre_next HP.out HX.out (by simp [insB, hb]))
        go_wp2_with fail
        go_roundw
        case rel => exact ⟨k + 1, by omega, by go_num, HQ, hbr1⟩
        case measure => simp [intOf]; omega
    · have hkn : k = n := by omega
      have HF2 : Hid (R = true) := by show _ = _; rw [HF.out, any_none (by have := HN.out; omega) HP.out]; rfl
      subst hkn
      go_wp2_with fail
      go_ret
      exact ⟨ret_bool HF2.out.symm, hBr⟩
/-- the slices among these cells have their length within their capacity -/
def CapC (cs : List Value) : Prop := ∀ A n c, Value.slice A n c ∈ cs → n ≤ c
theorem cap_mod {w : World} {lo hi : Nat} {pages : Int} {imports : List Imp} {cores : List Core} {us : List Value} (h : LvC w lo hi (Mod.pd ⟨pages, imports, cores⟩) us) : CapC us := by
  obtain ⟨F, h, _⟩ := h
  rw [Mod.pd_mk, HoldL] at h
  obtain ⟨c1, cs1, F1, F2, rfl, _, h1, h⟩ := h
  rw [HoldL] at h
  obtain ⟨c2, cs2, F3, F4, rfl, _, h2, h⟩ := h
  rw [HoldL] at h
  obtain ⟨c3, cs3, F5, F6, rfl, _, h3, h⟩ := h
  rw [HoldL] at h
  obtain ⟨rfl, _⟩ := h
  obtain ⟨rfl, _⟩ := Hold.of_lit h1
  rw [Hold] at h2 h3
  obtain ⟨A2, n2, e2, rfl, _, k2, _⟩ := h2
  obtain ⟨A3, n3, e3, rfl, _, k3, _⟩ := h3
  intro A n c hm
  simp only [List.mem_cons, List.not_mem_nil, or_false] at hm
  rcases hm with hm | hm | hm
  · cases hm
  · cases hm; exact k2
  · cases hm; exact k3
theorem specWord_v {s : ByteArray} {b : Bool} {w : World} (hs : s.size ≤ maxLen) (h : wordOk s = b) : Calls Tryz.prog 37 #[.string s] w fun e w' => e = .returned (.bool b) ∧ w' = w := by
  rw [← h]
  exact (specWord_any s hs w).mono fun e w' q => ⟨q.1, q.2.symm⟩
theorem l00In_v {n lo hi : Int} {b : Bool} {w : World} (h : inB n lo hi = b) : Calls Tryz.prog 36 #[.int .i64 n, .int .i64 lo, .int .i64 hi] w fun e w' => e = .returned (.bool b) ∧ w' = w := by
  rw [← h]
  exact (l00In_any n lo hi w).mono fun e w' q => ⟨q.1, q.2.symm⟩
theorem specImportAt_v {x : ByteArray} {i : Int} {B : Nat} {v : Value} {ts : List Imp} {w : World} (h : Rep w B (.row 3 (ts.flatMap Imp.pd)) v) (hi : idxP (fun y => decide (y.name = x)) ts = i) :
    Calls Tryz.prog 38 #[v, .string x] w fun e w' => e = .returned (.int .i64 i) ∧ w' = w := by
  rw [← hi]
  exact (specImportAt_any x h).mono fun e w' q => ⟨q.1, q.2.symm⟩
theorem specCoreAt_v {x : ByteArray} {i : Int} {B : Nat} {v : Value} {ts : List Core} {w : World} (h : Rep w B (.row 5 (ts.flatMap Core.pd)) v) (hi : idxP (fun y => decide (y.name = x)) ts = i) :
    Calls Tryz.prog 40 #[v, .string x] w fun e w' => e = .returned (.int .i64 i) ∧ w' = w := by
  rw [← hi]
  exact (specCoreAt_any x h).mono fun e w' q => ⟨q.1, q.2.symm⟩
end Go.Proofs.YtflpfcnpjadccaaGreatDoor

