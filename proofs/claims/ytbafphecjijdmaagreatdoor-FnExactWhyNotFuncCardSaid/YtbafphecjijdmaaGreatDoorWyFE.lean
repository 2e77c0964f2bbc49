/-
  WhyNotFunc of both packages (by program: gen_why.py).
-/
import Derived.Test.YtbafphecjijdmaaGreatDoorWyFS
import Derived.Test.YtbafphecjijdmaaGreatDoorWyFI
import Derived.Test.YtbafphecjijdmaaGreatDoorPaImpl
import Derived.Deep.RegionHeld3
namespace Go.Proofs.YtbafphecjijdmaaGreatDoor
open Go.RowKit
set_option linter.unusedVariables false
set_option linter.unusedSimpArgs false
set_option linter.unnecessarySimpa false
set_option maxRecDepth 16000


set_option maxHeartbeats 1600000 in
theorem specFuncOk_any (f : FuncType) {B : Nat} {cs : List Value} {w : World} (hB : B ≤ w.heap.size) (hwf : PD.wfL (FuncType.pd f)) (h : RepC w B (FuncType.pd f) cs) :
    Calls Tryz.prog 45 #[.agg cs.toArray] w fun e w' => e = .returned (.bool (funcB f)) ∧ Below w.heap.size w w' := by
  obtain ⟨params, ⟨result_kind, result_name, result_labels, result_kids⟩, async⟩ := f
  obtain ⟨paramsV, result_labelsV, result_kidsV, rfl, r_params, r_result_labels, r_result_kids⟩ := FuncType.open_ h
  have R_params := Lib.hid r_params
  clear r_params
  have R_result_labels := Lib.hid r_result_labels
  clear r_result_labels
  have R_result_kids := Lib.hid r_result_kids
  clear r_result_kids
  have HW := Lib.hid hwf
  clear h hwf
  go_enter Tryz.func45, Tryz.ntmps45
  go_wp2_with fail
  obtain ⟨w0, hw0⟩ : ∃ W, W = w.alloc (.cells #[paramsV, .int .i64 result_kind, .string result_name, result_labelsV, result_kidsV, .bool async] 62) := ⟨_, rfl⟩
  rw [← hw0]
  have bA : Blk w0 w.heap.size 62 #[paramsV, .int .i64 result_kind, .string result_name, result_labelsV, result_kidsV, .bool async] := by rw [hw0]; exact Blk.new w _ _
  have hB0 : Below w.heap.size w w0 := by rw [hw0]; exact (Below.refl _ _).alloc (Nat.le_refl _) _
  clear hw0
  refine (specFunc_any ⟨params, ⟨result_kind, result_name, result_labels, result_kids⟩, async⟩ (B := B) (cs := [paramsV, .int .i64 result_kind, .string result_name, result_labelsV, result_kidsV, .bool async]) (w := w0) (Nat.le_trans hB hB0.size) HW.out (FuncType.close_ (R_params.out.below (hB0.mono hB)) (R_result_labels.out.below (hB0.mono hB)) (R_result_kids.out.below (hB0.mono hB)))).mono ?_
  rintro e w1 ⟨rfl, hb1⟩
  go_wp2_with fail
  go_ret
  exact ⟨rfl, hB0.trans (hb1.mono hB0.size)⟩
def whyRs (R : Why) : Reason := ⟨whyN R, whyS R⟩
theorem wq_ok {R : Why} {w w' : World} {e : Ending} (h : WQ R w e w') : ∃ us, e = .returned (.tuple #[.agg us.toArray, .bool (whyB R)]) ∧ LvC w' w.heap.size w'.heap.size (Reason.pd (whyRs R)) us ∧ Below w.heap.size w w' :=
  ⟨[.int .i64 (whyN R), .string (whyS R)], h.1, ((LvC.nil w' _ _ (Nat.le_refl _)).lit _).lit _, h.2⟩
theorem szL_mem' {α : Type} {f : α → List PD} : ∀ {ts : List α} {t : α}, t ∈ ts → PD.szL (f t) ≤ PD.szL (ts.flatMap f)
  | [], t, h => absurd h (by simp)
  | x :: ts, t, h => by
    rw [List.flatMap_cons, szL_append]
    rcases List.mem_cons.1 h with rfl | h
    · omega
    · have := szL_mem' (f := f) h; omega
theorem func_szP {f : FuncType} (h : PD.szL (FuncType.pd f) ≤ 1048576) : f.params.length ≤ 1048576 ∧ (∀ p ∈ f.params, p.typ.parts ≤ 4194304) ∧ f.result.parts ≤ 4194304 := by
  obtain ⟨params, ⟨result_kind, result_name, result_labels, result_kids⟩, async⟩ := f
  have hp := parts_le ⟨result_kind, result_name, result_labels, result_kids⟩
  rw [FuncType.pd_mk] at h
  rw [Ty.pd_mk] at hp
  simp only [PD.szL] at h hp
  rw [sz_row Param.pd_length (by decide)] at h
  refine ⟨by simp only; omega, fun p hpm => ?_, by simp only; omega⟩
  have h1 := szL_mem' (f := Param.pd) hpm
  obtain ⟨name, ⟨a, b, c, d⟩⟩ := p
  have h2 := parts_le ⟨a, b, c, d⟩
  rw [Param.pd_mk] at h1
  rw [Ty.pd_mk] at h2
  simp only [PD.szL] at h1 h2
  simp only
  omega
set_option maxHeartbeats 3200000 in
theorem specWhyNotFunc_any (a b : FuncType) (hwa : PD.wfL (FuncType.pd a)) (hza : PD.szL (FuncType.pd a) ≤ 1048576) (hwb : PD.wfL (FuncType.pd b)) (hzb : PD.szL (FuncType.pd b) ≤ 1048576) (B : Nat) (cs ds : List Value) (w : World) (hB : B ≤ w.heap.size) (hT : TabP w) (h : RepC w B (FuncType.pd a) cs) (k : RepC w B (FuncType.pd b) ds) :
    Calls Tryz.prog 21 #[.agg cs.toArray, .agg ds.toArray] w fun e w' => WQ (whyFuncR a b) w e w' := by
  have HZa := Lib.hid (func_szP hza)
  have HZb := Lib.hid (func_szP hzb)
  have HWa := Lib.hid hwa
  have HWb := Lib.hid hwb
  clear hza hzb hwa hwb
  obtain ⟨apar, ⟨ark, arn, arl, art⟩, aas⟩ := a
  obtain ⟨aparV, arlV, artV, rfl, r_apar, r_arl, r_art⟩ := FuncType.open_ h
  obtain ⟨aparA, aparN, aparC, rfl⟩ := r_apar.form
  have R_apar := Lib.hid r_apar
  clear r_apar
  obtain ⟨arlA, arlN, arlC, rfl⟩ := r_arl.form
  have R_arl := Lib.hid r_arl
  clear r_arl
  obtain ⟨artA, artN, artC, rfl⟩ := r_art.form
  have R_art := Lib.hid r_art
  clear r_art
  obtain ⟨bpar, ⟨brk, brn, brl, brt⟩, bas⟩ := b
  obtain ⟨bparV, brlV, brtV, rfl, r_bpar, r_brl, r_brt⟩ := FuncType.open_ k
  obtain ⟨bparA, bparN, bparC, rfl⟩ := r_bpar.form
  have R_bpar := Lib.hid r_bpar
  clear r_bpar
  obtain ⟨brlA, brlN, brlC, rfl⟩ := r_brl.form
  have R_brl := Lib.hid r_brl
  clear r_brl
  obtain ⟨brtA, brtN, brtC, rfl⟩ := r_brt.form
  have R_brt := Lib.hid r_brt
  clear r_brt
  clear h k
  obtain ⟨R, hR⟩ : ∃ R : Why, R = whyFuncR ⟨apar, ⟨ark, arn, arl, art⟩, aas⟩ ⟨bpar, ⟨brk, brn, brl, brt⟩, bas⟩ := ⟨_, rfl⟩
  rw [← hR]
  have HR := Lib.hid hR
  clear hR
  obtain ⟨va, hva⟩ : ∃ v : Bool, funcB ⟨apar, ⟨ark, arn, arl, art⟩, aas⟩ = v := ⟨_, rfl⟩
  obtain ⟨vb, hvb⟩ : ∃ v : Bool, funcB ⟨bpar, ⟨brk, brn, brl, brt⟩, bas⟩ = v := ⟨_, rfl⟩
  have HVA := Lib.hid hva
  have HVB := Lib.hid hvb
  clear hva hvb
  obtain ⟨w0, hw0, bA, bC, bR, hB0, hs0⟩ := box3 w 62 #[.slice aparA aparN aparC, .int .i64 ark, .string arn, .slice arlA arlN arlC, .slice artA artN artC, .bool aas] #[.slice bparA bparN bparC, .int .i64 brk, .string brn, .slice brlA brlN brlC, .slice brtA brtN brtC, .bool bas]
  have HW0 := Lib.hid hw0
  clear hw0
  go_enter Tryz.func21, Tryz.ntmps21
  go_wp2_with fail
  try rw [← HW0.out]
  refine (specFuncOk_any ⟨apar, ⟨ark, arn, arl, art⟩, aas⟩ (B := B) (cs := [.slice aparA aparN aparC, .int .i64 ark, .string arn, .slice arlA arlN arlC, .slice artA artN artC, .bool aas]) (w := w0) (Nat.le_trans hB hB0.size) HWa.out (FuncType.close_ (R_apar.out.below (hB0.mono hB)) (R_arl.out.below (hB0.mono hB)) (R_art.out.below (hB0.mono hB)))).mono ?_
  rintro e w1 ⟨rfl, hb1⟩
  have hB1 := hB0.trans (hb1.mono (by omega))
  have hs1 := hb1.size
  have bA1 := bA.step hb1
  have bC1 := bC.step hb1
  have bR1 := bR.step hb1
  rw [HVA.out]
  cases va
  case false =>
    have HF : Hid (R = none) := by show _ = _; rw [HR.out, whyFuncR, HVA.out]; rfl
    obtain ⟨r0, r1, f0, f1⟩ := zr bR1
    go_wp2_with fail
    obtain ⟨n0, n1, nB⟩ := ret3 bR1 hB1 (by omega) (0) (⟨#[]⟩)
    exact bodyPost_ret (v := .tuple #[.agg #[.int .i64 0, .string { data := #[] }], .bool false]) (by simp [results, Tryz.results21, go_sem, n0, n1]) rfl ⟨ret_why (by rw [HF.out]; rfl) (by rw [HF.out]; rfl) (by rw [HF.out]; rfl), nB⟩
  have pa0 : w1.cell? ⟨w.heap.size, 0, none⟩ = some (.slice aparA aparN aparC) := bA1.cell 0
  have pa1 : w1.cell? ⟨w.heap.size, 1, none⟩ = some (.int .i64 ark) := bA1.cell 1
  have pa2 : w1.cell? ⟨w.heap.size, 2, none⟩ = some (.string arn) := bA1.cell 2
  have pa3 : w1.cell? ⟨w.heap.size, 3, none⟩ = some (.slice arlA arlN arlC) := bA1.cell 3
  have pa4 : w1.cell? ⟨w.heap.size, 4, none⟩ = some (.slice artA artN artC) := bA1.cell 4
  have pa5 : w1.cell? ⟨w.heap.size, 5, none⟩ = some (.bool aas) := bA1.cell 5
  have pb0 : w1.cell? ⟨w.heap.size + 1, 0, none⟩ = some (.slice bparA bparN bparC) := bC1.cell 0
  have pb1 : w1.cell? ⟨w.heap.size + 1, 1, none⟩ = some (.int .i64 brk) := bC1.cell 1
  have pb2 : w1.cell? ⟨w.heap.size + 1, 2, none⟩ = some (.string brn) := bC1.cell 2
  have pb3 : w1.cell? ⟨w.heap.size + 1, 3, none⟩ = some (.slice brlA brlN brlC) := bC1.cell 3
  have pb4 : w1.cell? ⟨w.heap.size + 1, 4, none⟩ = some (.slice brtA brtN brtC) := bC1.cell 4
  have pb5 : w1.cell? ⟨w.heap.size + 1, 5, none⟩ = some (.bool bas) := bC1.cell 5
  go_wp2_with fail
  refine (specFuncOk_any ⟨bpar, ⟨brk, brn, brl, brt⟩, bas⟩ (B := B) (cs := [.slice bparA bparN bparC, .int .i64 brk, .string brn, .slice brlA brlN brlC, .slice brtA brtN brtC, .bool bas]) (w := w1) (Nat.le_trans hB hB1.size) HWb.out (FuncType.close_ (R_bpar.out.below (hB1.mono hB)) (R_brl.out.below (hB1.mono hB)) (R_brt.out.below (hB1.mono hB)))).mono ?_
  rintro e w2 ⟨rfl, hb2⟩
  have hB2 := hB1.trans (hb2.mono (by omega))
  have hs2 := hb2.size
  have bA2 := bA1.step hb2
  have bC2 := bC1.step hb2
  have bR2 := bR1.step hb2
  rw [HVB.out]
  cases vb
  case false =>
    have HF : Hid (R = none) := by show _ = _; rw [HR.out, whyFuncR, HVA.out, HVB.out]; rfl
    obtain ⟨r0, r1, f0, f1⟩ := zr bR2
    go_wp2_with fail
    obtain ⟨n0, n1, nB⟩ := ret3 bR2 hB2 (by omega) (0) (⟨#[]⟩)
    exact bodyPost_ret (v := .tuple #[.agg #[.int .i64 0, .string { data := #[] }], .bool false]) (by simp [results, Tryz.results21, go_sem, n0, n1]) rfl ⟨ret_why (by rw [HF.out]; rfl) (by rw [HF.out]; rfl) (by rw [HF.out]; rfl), nB⟩
  have HCW := specFuncW_any ⟨apar, ⟨ark, arn, arl, art⟩, aas⟩ ⟨bpar, ⟨brk, brn, brl, brt⟩, bas⟩ ⟨#[]⟩ B [.slice aparA aparN aparC, .int .i64 ark, .string arn, .slice arlA arlN arlC, .slice artA artN artC, .bool aas] [.slice bparA bparN bparC, .int .i64 brk, .string brn, .slice brlA brlN brlC, .slice brtA brtN brtC, .bool bas] w2 (Nat.le_trans hB hB2.size) (hT.below hB2) (okF_of HVA.out) (okF_of HVB.out) (by have : (ByteArray.mk #[]).size = 0 := rfl; omega) (FuncType.close_ (R_apar.out.below (hB2.mono hB)) (R_arl.out.below (hB2.mono hB)) (R_art.out.below (hB2.mono hB))) (FuncType.close_ (R_bpar.out.below (hB2.mono hB)) (R_brl.out.below (hB2.mono hB)) (R_brt.out.below (hB2.mono hB)))
  obtain ⟨R2, hR2⟩ : ∃ r, funcW (whyT 4) ⟨apar, ⟨ark, arn, arl, art⟩, aas⟩ ⟨bpar, ⟨brk, brn, brl, brt⟩, bas⟩ ⟨#[]⟩ = r := ⟨_, rfl⟩
  unfold WQ at HCW
  rw [hR2] at HCW
  obtain ⟨RK, RS, RN, HRK, HRS, HRN⟩ := why3 R2
  rw [HRK.out, HRS.out, HRN.out] at HCW
  replace HCW := Lib.hid HCW
  have HF : Hid (R = R2) := by show _ = _; rw [HR.out, whyFuncR, HVA.out, HVB.out, ← hR2]; rfl
  clear hR2
  have qa0 : w2.cell? ⟨w.heap.size, 0, none⟩ = some (.slice aparA aparN aparC) := bA2.cell 0
  have qa1 : w2.cell? ⟨w.heap.size, 1, none⟩ = some (.int .i64 ark) := bA2.cell 1
  have qa2 : w2.cell? ⟨w.heap.size, 2, none⟩ = some (.string arn) := bA2.cell 2
  have qa3 : w2.cell? ⟨w.heap.size, 3, none⟩ = some (.slice arlA arlN arlC) := bA2.cell 3
  have qa4 : w2.cell? ⟨w.heap.size, 4, none⟩ = some (.slice artA artN artC) := bA2.cell 4
  have qa5 : w2.cell? ⟨w.heap.size, 5, none⟩ = some (.bool aas) := bA2.cell 5
  have qb0 : w2.cell? ⟨w.heap.size + 1, 0, none⟩ = some (.slice bparA bparN bparC) := bC2.cell 0
  have qb1 : w2.cell? ⟨w.heap.size + 1, 1, none⟩ = some (.int .i64 brk) := bC2.cell 1
  have qb2 : w2.cell? ⟨w.heap.size + 1, 2, none⟩ = some (.string brn) := bC2.cell 2
  have qb3 : w2.cell? ⟨w.heap.size + 1, 3, none⟩ = some (.slice brlA brlN brlC) := bC2.cell 3
  have qb4 : w2.cell? ⟨w.heap.size + 1, 4, none⟩ = some (.slice brtA brtN brtC) := bC2.cell 4
  have qb5 : w2.cell? ⟨w.heap.size + 1, 5, none⟩ = some (.bool bas) := bC2.cell 5
  go_wp2_with fail
  refine HCW.out.mono ?_
  rintro e wq ⟨rfl, hbq⟩
  have hBq := hB2.trans (hbq.mono (by omega))
  have hsq := hbq.size
  have bRq := bR2.step hbq
  obtain ⟨r0, r1, f0, f1⟩ := zr bRq
  go_wp2_with fail
  obtain ⟨n0, n1, nB⟩ := ret3 bRq hBq (by omega) (RK) (RS)
  exact bodyPost_ret (v := .tuple #[.agg #[.int .i64 RK, .string RS], .bool RN]) (by simp [results, Tryz.results21, go_sem, n0, n1]) rfl ⟨ret_why (by rw [HF.out, HRK.out]) (by rw [HF.out, HRS.out]) (by rw [HF.out, HRN.out]), nB⟩
theorem specWhyNotFunc_ok (a b : FuncType) (hwa : PD.wfL (FuncType.pd a)) (hza : PD.szL (FuncType.pd a) ≤ 1048576) (hwb : PD.wfL (FuncType.pd b)) (hzb : PD.szL (FuncType.pd b) ≤ 1048576) : ∀ (B : Nat) (cs ds : List Value) (w : World), B ≤ w.heap.size → TabP w → RepC w B (FuncType.pd a) cs → RepC w B (FuncType.pd b) ds →
    Calls Tryz.prog 21 #[.agg cs.toArray, .agg ds.toArray] w fun e w' => ∃ us, e = .returned (.tuple #[.agg us.toArray, .bool (whyB (whyFuncR a b))]) ∧ LvC w' w.heap.size w'.heap.size (Reason.pd (whyRs (whyFuncR a b))) us ∧ Below w.heap.size w w' :=
  fun B cs ds w hB hT h k => (specWhyNotFunc_any a b hwa hza hwb hzb B cs ds w hB hT h k).mono fun _ _ he => wq_ok he
set_option maxHeartbeats 3200000 in
theorem implWhyNotFunc_any (a b : FuncType) (hwa : PD.wfL (FuncType.pd a)) (hza : PD.szL (FuncType.pd a) ≤ 1048576) (hwb : PD.wfL (FuncType.pd b)) (hzb : PD.szL (FuncType.pd b) ≤ 1048576) (B : Nat) (cs ds : List Value) (w : World) (hB : B ≤ w.heap.size) (hT : TabP w) (h : RepC w B (FuncType.pd a) cs) (k : RepC w B (FuncType.pd b) ds) :
    Calls Tryz.prog 23 #[.agg cs.toArray, .agg ds.toArray] w fun e w' => WQ (whyFuncR a b) w e w' := by
  have HZa := Lib.hid (func_szP hza)
  have HZb := Lib.hid (func_szP hzb)
  have HWa := Lib.hid hwa
  have HWb := Lib.hid hwb
  clear hza hzb hwa hwb
  obtain ⟨apar, ⟨ark, arn, arl, art⟩, aas⟩ := a
  obtain ⟨aparV, arlV, artV, rfl, r_apar, r_arl, r_art⟩ := FuncType.open_ h
  obtain ⟨aparA, aparN, aparC, rfl⟩ := r_apar.form
  have R_apar := Lib.hid r_apar
  clear r_apar
  obtain ⟨arlA, arlN, arlC, rfl⟩ := r_arl.form
  have R_arl := Lib.hid r_arl
  clear r_arl
  obtain ⟨artA, artN, artC, rfl⟩ := r_art.form
  have R_art := Lib.hid r_art
  clear r_art
  obtain ⟨bpar, ⟨brk, brn, brl, brt⟩, bas⟩ := b
  obtain ⟨bparV, brlV, brtV, rfl, r_bpar, r_brl, r_brt⟩ := FuncType.open_ k
  obtain ⟨bparA, bparN, bparC, rfl⟩ := r_bpar.form
  have R_bpar := Lib.hid r_bpar
  clear r_bpar
  obtain ⟨brlA, brlN, brlC, rfl⟩ := r_brl.form
  have R_brl := Lib.hid r_brl
  clear r_brl
  obtain ⟨brtA, brtN, brtC, rfl⟩ := r_brt.form
  have R_brt := Lib.hid r_brt
  clear r_brt
  clear h k
  obtain ⟨R, hR⟩ : ∃ R : Why, R = whyFuncR ⟨apar, ⟨ark, arn, arl, art⟩, aas⟩ ⟨bpar, ⟨brk, brn, brl, brt⟩, bas⟩ := ⟨_, rfl⟩
  rw [← hR]
  have HR := Lib.hid hR
  clear hR
  obtain ⟨va, hva⟩ : ∃ v : Bool, funcB ⟨apar, ⟨ark, arn, arl, art⟩, aas⟩ = v := ⟨_, rfl⟩
  obtain ⟨vb, hvb⟩ : ∃ v : Bool, funcB ⟨bpar, ⟨brk, brn, brl, brt⟩, bas⟩ = v := ⟨_, rfl⟩
  have HVA := Lib.hid hva
  have HVB := Lib.hid hvb
  clear hva hvb
  obtain ⟨w0, hw0, bA, bC, bR, hB0, hs0⟩ := box3 w 62 #[.slice aparA aparN aparC, .int .i64 ark, .string arn, .slice arlA arlN arlC, .slice artA artN artC, .bool aas] #[.slice bparA bparN bparC, .int .i64 brk, .string brn, .slice brlA brlN brlC, .slice brtA brtN brtC, .bool bas]
  have HW0 := Lib.hid hw0
  clear hw0
  go_enter Tryz.func23, Tryz.ntmps23
  go_wp2_with fail
  try rw [← HW0.out]
  refine (implFunc_any ⟨apar, ⟨ark, arn, arl, art⟩, aas⟩ HZa.out.1 HZa.out.2.1 HZa.out.2.2 (B := B) (cs := [.slice aparA aparN aparC, .int .i64 ark, .string arn, .slice arlA arlN arlC, .slice artA artN artC, .bool aas]) (w := w0) (Nat.le_trans hB hB0.size) HWa.out (FuncType.close_ (R_apar.out.below (hB0.mono hB)) (R_arl.out.below (hB0.mono hB)) (R_art.out.below (hB0.mono hB)))).mono ?_
  rintro e w1 ⟨rfl, hb1⟩
  have hB1 := hB0.trans (hb1.mono (by omega))
  have hs1 := hb1.size
  have bA1 := bA.step hb1
  have bC1 := bC.step hb1
  have bR1 := bR.step hb1
  rw [HVA.out]
  cases va
  case false =>
    have HF : Hid (R = none) := by show _ = _; rw [HR.out, whyFuncR, HVA.out]; rfl
    go_wp2_with fail
    refine (implNone_any _).mono ?_
    rintro e wz ⟨rfl, hbz⟩
    have hBz := hB1.trans (hbz.mono (by omega))
    have bRz := bR1.step hbz
    have hsz := hbz.size
    obtain ⟨r0, r1, f0, f1⟩ := zr bRz
    go_wp2_with fail
    obtain ⟨n0, n1, nB⟩ := ret3 bRz hBz (by omega) (0) (⟨#[]⟩)
    exact bodyPost_ret (v := .tuple #[.agg #[.int .i64 0, .string { data := #[] }], .bool false]) (by simp [results, Tryz.results23, go_sem, n0, n1]) rfl ⟨ret_why (by rw [HF.out]; rfl) (by rw [HF.out]; rfl) (by rw [HF.out]; rfl), nB⟩
  have pa0 : w1.cell? ⟨w.heap.size, 0, none⟩ = some (.slice aparA aparN aparC) := bA1.cell 0
  have pa1 : w1.cell? ⟨w.heap.size, 1, none⟩ = some (.int .i64 ark) := bA1.cell 1
  have pa2 : w1.cell? ⟨w.heap.size, 2, none⟩ = some (.string arn) := bA1.cell 2
  have pa3 : w1.cell? ⟨w.heap.size, 3, none⟩ = some (.slice arlA arlN arlC) := bA1.cell 3
  have pa4 : w1.cell? ⟨w.heap.size, 4, none⟩ = some (.slice artA artN artC) := bA1.cell 4
  have pa5 : w1.cell? ⟨w.heap.size, 5, none⟩ = some (.bool aas) := bA1.cell 5
  have pb0 : w1.cell? ⟨w.heap.size + 1, 0, none⟩ = some (.slice bparA bparN bparC) := bC1.cell 0
  have pb1 : w1.cell? ⟨w.heap.size + 1, 1, none⟩ = some (.int .i64 brk) := bC1.cell 1
  have pb2 : w1.cell? ⟨w.heap.size + 1, 2, none⟩ = some (.string brn) := bC1.cell 2
  have pb3 : w1.cell? ⟨w.heap.size + 1, 3, none⟩ = some (.slice brlA brlN brlC) := bC1.cell 3
  have pb4 : w1.cell? ⟨w.heap.size + 1, 4, none⟩ = some (.slice brtA brtN brtC) := bC1.cell 4
  have pb5 : w1.cell? ⟨w.heap.size + 1, 5, none⟩ = some (.bool bas) := bC1.cell 5
  go_wp2_with fail
  refine (implFunc_any ⟨bpar, ⟨brk, brn, brl, brt⟩, bas⟩ HZb.out.1 HZb.out.2.1 HZb.out.2.2 (B := B) (cs := [.slice bparA bparN bparC, .int .i64 brk, .string brn, .slice brlA brlN brlC, .slice brtA brtN brtC, .bool bas]) (w := w1) (Nat.le_trans hB hB1.size) HWb.out (FuncType.close_ (R_bpar.out.below (hB1.mono hB)) (R_brl.out.below (hB1.mono hB)) (R_brt.out.below (hB1.mono hB)))).mono ?_
  rintro e w2 ⟨rfl, hb2⟩
  have hB2 := hB1.trans (hb2.mono (by omega))
  have hs2 := hb2.size
  have bA2 := bA1.step hb2
  have bC2 := bC1.step hb2
  have bR2 := bR1.step hb2
  rw [HVB.out]
  cases vb
  case false =>
    have HF : Hid (R = none) := by show _ = _; rw [HR.out, whyFuncR, HVA.out, HVB.out]; rfl
    go_wp2_with fail
    refine (implNone_any _).mono ?_
    rintro e wz ⟨rfl, hbz⟩
    have hBz := hB2.trans (hbz.mono (by omega))
    have bRz := bR2.step hbz
    have hsz := hbz.size
    obtain ⟨r0, r1, f0, f1⟩ := zr bRz
    go_wp2_with fail
    obtain ⟨n0, n1, nB⟩ := ret3 bRz hBz (by omega) (0) (⟨#[]⟩)
    exact bodyPost_ret (v := .tuple #[.agg #[.int .i64 0, .string { data := #[] }], .bool false]) (by simp [results, Tryz.results23, go_sem, n0, n1]) rfl ⟨ret_why (by rw [HF.out]; rfl) (by rw [HF.out]; rfl) (by rw [HF.out]; rfl), nB⟩
  have HCW := implFuncW_any ⟨apar, ⟨ark, arn, arl, art⟩, aas⟩ ⟨bpar, ⟨brk, brn, brl, brt⟩, bas⟩ ⟨#[]⟩ B [.slice aparA aparN aparC, .int .i64 ark, .string arn, .slice arlA arlN arlC, .slice artA artN artC, .bool aas] [.slice bparA bparN bparC, .int .i64 brk, .string brn, .slice brlA brlN brlC, .slice brtA brtN brtC, .bool bas] w2 (Nat.le_trans hB hB2.size) (hT.below hB2) (okF_of HVA.out) (okF_of HVB.out) (by have : (ByteArray.mk #[]).size = 0 := rfl; omega) (FuncType.close_ (R_apar.out.below (hB2.mono hB)) (R_arl.out.below (hB2.mono hB)) (R_art.out.below (hB2.mono hB))) (FuncType.close_ (R_bpar.out.below (hB2.mono hB)) (R_brl.out.below (hB2.mono hB)) (R_brt.out.below (hB2.mono hB)))
  obtain ⟨R2, hR2⟩ : ∃ r, funcW (whyT 4) ⟨apar, ⟨ark, arn, arl, art⟩, aas⟩ ⟨bpar, ⟨brk, brn, brl, brt⟩, bas⟩ ⟨#[]⟩ = r := ⟨_, rfl⟩
  unfold WQ at HCW
  rw [hR2] at HCW
  obtain ⟨RK, RS, RN, HRK, HRS, HRN⟩ := why3 R2
  rw [HRK.out, HRS.out, HRN.out] at HCW
  replace HCW := Lib.hid HCW
  have HF : Hid (R = R2) := by show _ = _; rw [HR.out, whyFuncR, HVA.out, HVB.out, ← hR2]; rfl
  clear hR2
  have qa0 : w2.cell? ⟨w.heap.size, 0, none⟩ = some (.slice aparA aparN aparC) := bA2.cell 0
  have qa1 : w2.cell? ⟨w.heap.size, 1, none⟩ = some (.int .i64 ark) := bA2.cell 1
  have qa2 : w2.cell? ⟨w.heap.size, 2, none⟩ = some (.string arn) := bA2.cell 2
  have qa3 : w2.cell? ⟨w.heap.size, 3, none⟩ = some (.slice arlA arlN arlC) := bA2.cell 3
  have qa4 : w2.cell? ⟨w.heap.size, 4, none⟩ = some (.slice artA artN artC) := bA2.cell 4
  have qa5 : w2.cell? ⟨w.heap.size, 5, none⟩ = some (.bool aas) := bA2.cell 5
  have qb0 : w2.cell? ⟨w.heap.size + 1, 0, none⟩ = some (.slice bparA bparN bparC) := bC2.cell 0
  have qb1 : w2.cell? ⟨w.heap.size + 1, 1, none⟩ = some (.int .i64 brk) := bC2.cell 1
  have qb2 : w2.cell? ⟨w.heap.size + 1, 2, none⟩ = some (.string brn) := bC2.cell 2
  have qb3 : w2.cell? ⟨w.heap.size + 1, 3, none⟩ = some (.slice brlA brlN brlC) := bC2.cell 3
  have qb4 : w2.cell? ⟨w.heap.size + 1, 4, none⟩ = some (.slice brtA brtN brtC) := bC2.cell 4
  have qb5 : w2.cell? ⟨w.heap.size + 1, 5, none⟩ = some (.bool bas) := bC2.cell 5
  go_wp2_with fail
  refine HCW.out.mono ?_
  rintro e wq ⟨rfl, hbq⟩
  have hBq := hB2.trans (hbq.mono (by omega))
  have hsq := hbq.size
  have bRq := bR2.step hbq
  obtain ⟨r0, r1, f0, f1⟩ := zr bRq
  go_wp2_with fail
  obtain ⟨n0, n1, nB⟩ := ret3 bRq hBq (by omega) (RK) (RS)
  exact bodyPost_ret (v := .tuple #[.agg #[.int .i64 RK, .string RS], .bool RN]) (by simp [results, Tryz.results23, go_sem, n0, n1]) rfl ⟨ret_why (by rw [HF.out, HRK.out]) (by rw [HF.out, HRS.out]) (by rw [HF.out, HRN.out]), nB⟩
theorem implWhyNotFunc_ok (a b : FuncType) (hwa : PD.wfL (FuncType.pd a)) (hza : PD.szL (FuncType.pd a) ≤ 1048576) (hwb : PD.wfL (FuncType.pd b)) (hzb : PD.szL (FuncType.pd b) ≤ 1048576) : ∀ (B : Nat) (cs ds : List Value) (w : World), B ≤ w.heap.size → TabP w → RepC w B (FuncType.pd a) cs → RepC w B (FuncType.pd b) ds →
    Calls Tryz.prog 23 #[.agg cs.toArray, .agg ds.toArray] w fun e w' => ∃ us, e = .returned (.tuple #[.agg us.toArray, .bool (whyB (whyFuncR a b))]) ∧ LvC w' w.heap.size w'.heap.size (Reason.pd (whyRs (whyFuncR a b))) us ∧ Below w.heap.size w w' :=
  fun B cs ds w hB hT h k => (implWhyNotFunc_any a b hwa hza hwb hzb B cs ds w hB hT h k).mono fun _ _ he => wq_ok he
end Go.Proofs.YtbafphecjijdmaaGreatDoor

