/-
  FnExactInsBytes: the bytes of an instruction.
-/
import Derived.Test.YtlkfaednolmfkaaLebW
import Derived.Test.YtlkfaednolmfkaaIns
namespace Go.Proofs.Ytlkfaednolmfkaa
open Go.RowKit
set_option linter.unusedVariables false
set_option linter.unusedSimpArgs false
set_option linter.unnecessarySimpa false
set_option maxRecDepth 16000
theorem opHi_le {k : Int} (h : k ≠ 1) : opHi k ≤ 4096 := by
  unfold opHi
  repeat' split
  all_goals first | omega | simp_all
def insBy (op a : Int) : List Int := if insOk op a then [op] ++ (if op = 1 then sleb a else if opHas op then leb a else []) else []
theorem insBy_no {op a : Int} (h : insOk op a = false) : strOfNums (insBy op a) = ⟨#[]⟩ := by rw [insBy, h]; rfl
theorem insBy_1 {a : Int} (h : insOk 1 a = true) : insBy 1 a = [1] ++ sleb a := by rw [insBy, h]; rfl
theorem insBy_0 {op a : Int} (h : insOk op a = true) (h1 : op ≠ 1) (h2 : opHas op = false) : insBy op a = [op] := by rw [insBy, h, h2]; simp [h1]
theorem insBy_n {op a : Int} (h : insOk op a = true) (h1 : op ≠ 1) (h2 : opHas op = true) : insBy op a = [op] ++ leb a := by rw [insBy, h, h2]; simp [h1]
theorem ins_lo {op a : Int} (h : insOk op a = true) : 1 ≤ op ∧ op ≤ 40 ∧ (op ≠ 1 → 0 ≤ a) := by
  rw [insOk, Bool.and_eq_true, inB_iff, inB_iff] at h
  obtain ⟨⟨h1, h2⟩, h3, _⟩ := h
  refine ⟨h1, h2, fun hne => ?_⟩
  have : opLo op = 0 := by unfold opLo; simp [hne]
  omega
set_option maxHeartbeats 1600000 in
theorem specInsBytes_any (op a : Int) (ha : (Lit.int .i64 a).wf = true) (w : World) : Calls Try.prog 34 #[.agg #[.int .i64 op, .int .i64 a]] w fun e w' => e = .returned (.string (strOfNums (insBy op a))) ∧ Below w.heap.size w w' := by
  obtain ⟨Z, hZ⟩ : ∃ Z, Z = strOfNums (insBy op a) := ⟨_, rfl⟩
  rw [← hZ]
  have HZ := Lib.hid hZ
  have HA := Lib.hid ha
  clear hZ ha
  go_enter Try.func34, Try.ntmps34
  go_wp2_with fail
  obtain ⟨w0, hw0⟩ : ∃ W, W = w.alloc (.cells #[.int .i64 op, .int .i64 a] 23) := ⟨_, rfl⟩
  rw [← hw0]
  have bA : Blk w0 w.heap.size 23 #[.int .i64 op, .int .i64 a] := by rw [hw0]; exact Blk.new w _ _
  have hB0 : Below w.heap.size w w0 := by rw [hw0]; exact (Below.refl _ _).alloc (Nat.le_refl _) _
  clear hw0
  refine (specInsOk_any op a _).mono ?_
  rintro e w1 ⟨rfl, hb1⟩
  have hB1 := hB0.trans (hb1.mono hB0.size)
  replace bA := bA.step hb1
  cases hok : insOk op a
  · have HF : Hid (Z = ⟨#[]⟩) := by show _ = _; rw [HZ.out, insBy_no hok]
    go_wp2_with fail
    go_ret
    exact ⟨ret_str HF.out.symm, hB1⟩
  obtain ⟨h1, h40, hlo⟩ := ins_lo hok
  have HOK := Lib.hid hok
  clear hok
  have a0 : w1.cell? ⟨w.heap.size, 0, none⟩ = some (.int .i64 op) := bA.cell 0
  go_wp2_with fail
  refine (specFix_any op (by omega) h40 _).mono ?_
  rintro e w2 ⟨rfl, hb2⟩
  have hB2 := hB1.trans (hb2.mono hB1.size)
  replace bA := bA.step hb2
  have z1 : (strOfNums [op]).size = 1 := strOfNums_size _
  have b0 : w2.cell? ⟨w.heap.size, 0, none⟩ = some (.int .i64 op) := bA.cell 0
  have b1 : w2.cell? ⟨w.heap.size, 1, none⟩ = some (.int .i64 a) := bA.cell 1
  clear a0
  go_wp2_with fail
  refine (specOp_any op _).mono ?_
  rintro e w3 ⟨rfl, hw3⟩
  have hw3' := hw3.symm
  clear hw3
  subst hw3'
  by_cases hop : op = 1
  · subst hop
    have e1 : opHas 1 = true := rfl
    have HF : Hid (Z = strOfNums [1] ++ strOfNums (sleb a)) := by show _ = _; rw [HZ.out, insBy_1 HOK.out, strNums_app]
    have z2 : (strOfNums (sleb a)).size ≤ 10 := by rw [strOfNums_size]; exact sleb_ten HA.out
    rw [e1]
    go_wp2_with fail
    refine (specPutSleb_any a HA.out _).mono ?_
    rintro e w3 ⟨rfl, hb3⟩
    go_wp2_with fail
    go_ret
    exact ⟨ret_str HF.out.symm, hB2.trans (hb3.mono hB2.size)⟩
  have hopb : (op == 1) = false := by simpa using hop
  cases hh : opHas op
  · have HF : Hid (Z = strOfNums [op]) := by show _ = _; rw [HZ.out, insBy_0 HOK.out hop hh]
    go_wp2_with fail
    go_ret
    exact ⟨ret_str HF.out.symm, hB2⟩
  · have HF : Hid (Z = strOfNums [op] ++ strOfNums (leb a)) := by show _ = _; rw [HZ.out, insBy_n HOK.out hop hh, strNums_app]
    have ha0 := hlo hop
    have z2 : (strOfNums (leb a)).size ≤ 10 := by rw [strOfNums_size]; exact leb_ten ha0 HA.out
    go_wp2_with fail
    refine (specPutLeb_any a ha0 HA.out _).mono ?_
    rintro e w3 ⟨rfl, hb3⟩
    go_wp2_with fail
    go_ret
    exact ⟨ret_str HF.out.symm, hB2.trans (hb3.mono hB2.size)⟩
set_option maxHeartbeats 1600000 in
theorem implBytes_any (op a : Int) (ha : (Lit.int .i64 a).wf = true) (hok : insOk op a = true) (w : World) : Calls Try.prog 64 #[.agg #[.int .i64 op, .int .i64 a]] w fun e w' => e = .returned (.string (strOfNums (insBy op a))) ∧ Below w.heap.size w w' := by
  obtain ⟨Z, hZ⟩ : ∃ Z, Z = strOfNums (insBy op a) := ⟨_, rfl⟩
  rw [← hZ]
  have HZ := Lib.hid hZ
  have HA := Lib.hid ha
  obtain ⟨h1, h40, hlo⟩ := ins_lo hok
  have HOK := Lib.hid hok
  clear hZ ha hok
  go_enter Try.func64, Try.ntmps64
  go_wp2_with fail
  obtain ⟨w0, hw0⟩ : ∃ W, W = w.alloc (.cells #[.int .i64 op, .int .i64 a] 23) := ⟨_, rfl⟩
  rw [← hw0]
  have bA : Blk w0 w.heap.size 23 #[.int .i64 op, .int .i64 a] := by rw [hw0]; exact Blk.new w _ _
  have hB0 : Below w.heap.size w w0 := by rw [hw0]; exact (Below.refl _ _).alloc (Nat.le_refl _) _
  clear hw0
  refine (implFix_any op (by omega) h40 _).mono ?_
  rintro e w2 ⟨rfl, hb2⟩
  have hB2 := hB0.trans (hb2.mono hB0.size)
  replace bA := bA.step hb2
  have z1 : (strOfNums [op]).size = 1 := strOfNums_size _
  have b0 : w2.cell? ⟨w.heap.size, 0, none⟩ = some (.int .i64 op) := bA.cell 0
  have b1 : w2.cell? ⟨w.heap.size, 1, none⟩ = some (.int .i64 a) := bA.cell 1
  go_wp2_with fail
  refine (implOp_any op _).mono ?_
  rintro e w3 ⟨rfl, hw3⟩
  have hw3' := hw3.symm
  clear hw3
  subst hw3'
  by_cases hop : op = 1
  · subst hop
    have HF : Hid (Z = strOfNums [1] ++ strOfNums (sleb a)) := by show _ = _; rw [HZ.out, insBy_1 HOK.out, strNums_app]
    have z2 : (strOfNums (sleb a)).size ≤ 10 := by rw [strOfNums_size]; exact sleb_ten HA.out
    go_wp2_with fail
    refine (implPutSleb_any a HA.out _).mono ?_
    rintro e w3 ⟨rfl, hb3⟩
    go_wp2_with fail
    go_ret
    exact ⟨ret_str HF.out.symm, hB2.trans (hb3.mono hB2.size)⟩
  have hopb : (op == 1) = false := by simpa using hop
  cases hh : opHas op
  · have HF : Hid (Z = strOfNums [op]) := by show _ = _; rw [HZ.out, insBy_0 HOK.out hop hh]
    go_wp2_with fail
    go_ret
    exact ⟨ret_str HF.out.symm, hB2⟩
  · have HF : Hid (Z = strOfNums [op] ++ strOfNums (leb a)) := by show _ = _; rw [HZ.out, insBy_n HOK.out hop hh, strNums_app]
    have ha0 := hlo hop
    have z2 : (strOfNums (leb a)).size ≤ 10 := by rw [strOfNums_size]; exact leb_ten ha0 HA.out
    go_wp2_with fail
    refine (implPutLeb_any a ha0 HA.out _).mono ?_
    rintro e w3 ⟨rfl, hb3⟩
    go_wp2_with fail
    go_ret
    exact ⟨ret_str HF.out.symm, hB2.trans (hb3.mono hB2.size)⟩
set_option maxHeartbeats 1600000 in
theorem implInsBytes_any (op a : Int) (ha : (Lit.int .i64 a).wf = true) (w : World) : Calls Try.prog 36 #[.agg #[.int .i64 op, .int .i64 a]] w fun e w' => e = .returned (.string (strOfNums (insBy op a))) ∧ Below w.heap.size w w' := by
  obtain ⟨Z, hZ⟩ : ∃ Z, Z = strOfNums (insBy op a) := ⟨_, rfl⟩
  have HC := Lib.hid (fun (W : World) (hok : insOk op a = true) => implBytes_any op a ha hok W)
  have HZ := Lib.hid hZ
  rw [← hZ] at HC ⊢
  clear hZ ha
  go_enter Try.func36, Try.ntmps36
  go_wp2_with fail
  obtain ⟨w0, hw0⟩ : ∃ W, W = w.alloc (.cells #[.int .i64 op, .int .i64 a] 23) := ⟨_, rfl⟩
  rw [← hw0]
  have bA : Blk w0 w.heap.size 23 #[.int .i64 op, .int .i64 a] := by rw [hw0]; exact Blk.new w _ _
  have hB0 : Below w.heap.size w w0 := by rw [hw0]; exact (Below.refl _ _).alloc (Nat.le_refl _) _
  clear hw0
  refine (implInsOk_any op a _).mono ?_
  rintro e w1 ⟨rfl, hb1⟩
  have hB1 := hB0.trans (hb1.mono hB0.size)
  replace bA := bA.step hb1
  cases hok : insOk op a
  · have HF : Hid (Z = ⟨#[]⟩) := by show _ = _; rw [HZ.out, insBy_no hok]
    go_wp2_with fail
    go_ret
    exact ⟨ret_str HF.out.symm, hB1⟩
  have b0 : w1.cell? ⟨w.heap.size, 0, none⟩ = some (.int .i64 op) := bA.cell 0
  have b1 : w1.cell? ⟨w.heap.size, 1, none⟩ = some (.int .i64 a) := bA.cell 1
  go_wp2_with fail
  refine (HC.out w1 hok).mono ?_
  rintro e w2 ⟨rfl, hb2⟩
  go_wp2_with fail
  go_ret
  exact ⟨rfl, hB1.trans (hb2.mono hB1.size)⟩
end Go.Proofs.Ytlkfaednolmfkaa

