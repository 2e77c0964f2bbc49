/-
  Valid function types of the reference: l03Func, l03Params (by program: gen_pa.py).
-/
import Derived.Test.YtbafphecjijdmaaGreatDoorShape
import Derived.Test.YtbafphecjijdmaaGreatDoorRowI
import Derived.Test.YtbafphecjijdmaaGreatDoorIdx
namespace Go.Proofs.YtbafphecjijdmaaGreatDoor
open Go.RowKit
set_option linter.unusedVariables false
set_option linter.unusedSimpArgs false
set_option linter.unnecessarySimpa false
set_option maxRecDepth 16000

def parB (p : Param) : Bool := nameOk p.name && (typeOk p.typ && !p.typ.isUnit)
def funcB (f : FuncType) : Bool := decide (f.params.length ≤ 6) && (typeOk f.result && (!f.result.has 21 21 && (!f.params.any (fun p => !parB p) && decide (f.params.map Param.name).Nodup)))
def seqAt (xs : List Param) (k : Nat) : Bool := match xs[k]? with
  | none => true
  | some x => parB x && !(xs.take k).any (fun y => decide (y.name = x.name))
theorem seq_at {xs : List Param} {k : Nat} {x : Param} (hx : xs[k]? = some x) : seqAt xs k = (parB x && !(xs.take k).any (fun y => decide (y.name = x.name))) := by rw [seqAt, hx]
theorem seq_ok {xs : List Param} (h : ∀ k, k < xs.length → seqAt xs k = true) : (!xs.any (fun p => !parB p) && decide (xs.map Param.name).Nodup) = true := by
  have hk : ∀ (k : Nat) (hk : k < xs.length), parB xs[k] = true ∧ ∀ (j : Nat) (hj : j < k), xs[j].name ≠ xs[k].name := fun k hk => by
    have h1 := h k hk
    rw [seqAt, List.getElem?_eq_getElem hk] at h1
    simp only [Bool.and_eq_true] at h1
    obtain ⟨h2, h3⟩ := h1
    refine ⟨h2, fun j hj e => ?_⟩
    rw [Bool.not_eq_true', List.any_eq_false] at h3
    refine h3 (xs[j]'(by omega)) (List.mem_take_iff_getElem.2 ⟨j, by omega, rfl⟩) ?_
    simpa using e
  rw [Bool.and_eq_true]
  refine ⟨?_, decide_eq_true (List.pairwise_iff_getElem.2 fun i j hi hj hij => ?_)⟩
  · rw [Bool.not_eq_true', List.any_eq_false]
    intro x hx
    obtain ⟨k, hk', rfl⟩ := List.getElem_of_mem hx
    simp [(hk k hk').1]
  · rw [List.getElem_map, List.getElem_map]
    exact (hk j (by simpa using hj)).2 i hij
theorem seq_bad {xs : List Param} {k : Nat} (h : seqAt xs k = false) : (!xs.any (fun p => !parB p) && decide (xs.map Param.name).Nodup) = false := by
  rw [seqAt] at h
  cases hx : xs[k]? with
  | none => rw [hx] at h; simp at h
  | some x =>
    rw [hx] at h
    simp only at h
    obtain ⟨hk, hxe⟩ := List.getElem?_eq_some_iff.1 hx
    have hmem : x ∈ xs := List.mem_of_getElem? hx
    cases h1 : parB x
    · rw [List.any_eq_true.2 ⟨x, hmem, by simp [h1]⟩]
      rfl
    rw [h1] at h
    simp only [Bool.true_and, Bool.not_eq_false'] at h
    obtain ⟨y, hy, he⟩ := List.any_eq_true.1 h
    obtain ⟨j, hj, hje⟩ := List.mem_take_iff_getElem.1 hy
    have : ¬ (xs.map Param.name).Nodup := fun hn => by
      have := List.pairwise_iff_getElem.1 hn j k (by simp; omega) (by simpa using hk) (by omega)
      rw [List.getElem_map, List.getElem_map, hje, hxe] at this
      exact this (by simpa using he)
    rw [decide_eq_false this, Bool.and_false]
theorem seq_next {xs : List Param} {k : Nat} (hp : ∀ j, j < k → seqAt xs j = true) (h : seqAt xs k = true) : ∀ j, j < k + 1 → seqAt xs j = true := fun j hj => by
  by_cases e : j = k
  · subst e; exact h
  · exact hp j (by omega)
theorem parWf {name : ByteArray} {a : Int} {b : ByteArray} {c : List ByteArray} {d : List Ty} (h : PD.wfL (Param.pd ⟨name, ⟨a, b, c, d⟩⟩)) : name.size ≤ maxLen ∧ PD.wfL (Ty.pd ⟨a, b, c, d⟩) := by
  rw [Param.pd_mk] at h
  rw [Ty.pd_mk]
  simp only [PD.wfL, PD.wf] at h ⊢
  exact ⟨h.1, h.2.1, h.2.2.1, h.2.2.2.1, h.2.2.2.2.1, trivial⟩
theorem funWf {params : List Param} {a : Int} {b : ByteArray} {c : List ByteArray} {d : List Ty} {async : Bool} (h : PD.wfL (FuncType.pd ⟨params, ⟨a, b, c, d⟩, async⟩)) : (∀ p ∈ params, PD.wfL (Param.pd p)) ∧ PD.wfL (Ty.pd ⟨a, b, c, d⟩) := by
  rw [FuncType.pd_mk] at h
  rw [Ty.pd_mk]
  simp only [PD.wfL, PD.wf] at h ⊢
  exact ⟨wfL_flatMap.1 h.1, h.2.1, h.2.2.1, h.2.2.2.1, h.2.2.2.2.1, trivial⟩
set_option maxHeartbeats 6400000 in
theorem specFunc_any (f : FuncType) {B : Nat} {cs : List Value} {w : World} (hB : B ≤ w.heap.size) (hwf : PD.wfL (FuncType.pd f)) (h : RepC w B (FuncType.pd f) cs) :
    Calls Tryz.prog 79 #[.agg cs.toArray] w fun e w' => e = .returned (.bool (funcB f)) ∧ Below w.heap.size w w' := by
  obtain ⟨params, ⟨result_kind, result_name, result_labels, result_kids⟩, async⟩ := f
  obtain ⟨hwp, hwr⟩ := funWf hwf
  have HWP := Lib.hid hwp
  have HWR := Lib.hid hwr
  obtain ⟨R, hR⟩ : ∃ R : Bool, R = funcB ⟨params, ⟨result_kind, result_name, result_labels, result_kids⟩, async⟩ := ⟨_, rfl⟩
  rw [← hR]
  rw [funcB] at hR
  simp only at hR
  have HR := Lib.hid hR
  clear hR
  obtain ⟨paramsV, result_labelsV, result_kidsV, rfl, r_params, r_result_labels, r_result_kids⟩ := FuncType.open_ h
  have R_params := Lib.hid r_params
  clear r_params
  have R_result_labels := Lib.hid r_result_labels
  clear r_result_labels
  have R_result_kids := Lib.hid r_result_kids
  clear r_result_kids
  obtain ⟨A, n, c, rfl, hnl, hm, hat⟩ := rep_row Param.pd_length (by decide) R_params.out
  unfold maxLen at hm
  have HN := Lib.hid hnl
  clear h hnl hwf hwp hwr
  by_cases hn : n ≤ 6
  case neg =>
    have HF : Hid (R = false) := by show _ = _; rw [HR.out, decide_eq_false (show ¬ params.length ≤ 6 by have := HN.out; omega)]; rfl
    go_enter Tryz.func79, Tryz.ntmps79
    go_wp2_with fail
    go_ret
    exact ⟨ret_bool HF.out.symm, (Below.refl _ _).alloc (Nat.le_refl _) _⟩
  have HD : Hid (decide (params.length ≤ 6) = true) := decide_eq_true (by have := HN.out; omega)
  go_enter Tryz.func79, Tryz.ntmps79
  go_wp2_with fail
  obtain ⟨w0, hw0⟩ : ∃ W, W = w.alloc (.cells #[.slice A n c, .int .i64 result_kind, .string result_name, result_labelsV, result_kidsV, .bool async] 62) := ⟨_, rfl⟩
  rw [← hw0]
  have bA : Blk w0 w.heap.size 62 #[.slice A n c, .int .i64 result_kind, .string result_name, result_labelsV, result_kidsV, .bool async] := by rw [hw0]; exact Blk.new w _ _
  have hB0 : Below w.heap.size w w0 := by rw [hw0]; exact (Below.refl _ _).alloc (Nat.le_refl _) _
  clear hw0
  refine (specOk_any ⟨result_kind, result_name, result_labels, result_kids⟩ (B := B) (cs := [.int .i64 result_kind, .string result_name, result_labelsV, result_kidsV]) (Nat.le_trans hB hB0.size) HWR.out (Ty.close_ (R_result_labels.out.below (hB0.mono hB)) (R_result_kids.out.below (hB0.mono hB)))).mono ?_
  rintro e w1 ⟨rfl, hb1⟩
  have hB1 := hB0.trans (hb1.mono hB0.size)
  have bA1 := bA.step hb1
  clear bA
  cases hok : typeOk ⟨result_kind, result_name, result_labels, result_kids⟩
  · have HF : Hid (R = false) := by show _ = _; rw [HR.out, HD.out, hok]; rfl
    go_wp2_with fail
    go_ret
    exact ⟨ret_bool HF.out.symm, hB1⟩
  have a_params : w1.cell? ⟨w.heap.size, 0, none⟩ = some (.slice A n c) := bA1.cell 0
  have a_result_kind : w1.cell? ⟨w.heap.size, 1, none⟩ = some (.int .i64 result_kind) := bA1.cell 1
  have a_result_name : w1.cell? ⟨w.heap.size, 2, none⟩ = some (.string result_name) := bA1.cell 2
  have a_result_labels : w1.cell? ⟨w.heap.size, 3, none⟩ = some (result_labelsV) := bA1.cell 3
  have a_result_kids : w1.cell? ⟨w.heap.size, 4, none⟩ = some (result_kidsV) := bA1.cell 4
  have a_async : w1.cell? ⟨w.heap.size, 5, none⟩ = some (.bool async) := bA1.cell 5
  go_wp2_with fail
  refine (specHas_all 21 21 ⟨result_kind, result_name, result_labels, result_kids⟩ B [.int .i64 result_kind, .string result_name, result_labelsV, result_kidsV] w1 (Nat.le_trans hB hB1.size) (Ty.close_ (R_result_labels.out.below (hB1.mono hB)) (R_result_kids.out.below (hB1.mono hB)))).mono ?_
  rintro e w2 ⟨rfl, hb2⟩
  have hB2 := hB1.trans (hb2.mono hB1.size)
  have bA2 := bA1.step hb2
  clear bA1
  cases hhas : Ty.has 21 21 ⟨result_kind, result_name, result_labels, result_kids⟩
  case true =>
    have HF : Hid (R = false) := by show _ = _; rw [HR.out, HD.out, hok, hhas]; rfl
    go_wp2_with fail
    go_ret
    exact ⟨ret_bool HF.out.symm, hB2⟩
  have HF : Hid (R = (!params.any (fun p => !parB p) && decide (params.map Param.name).Nodup)) := by show _ = _; rw [HR.out, HD.out, hok, hhas]; rfl
  clear hok hhas HR
  go_wp2_with fail
  go_loopw [3] (fun i wr => ∃ k : Nat, k ≤ n ∧ i = .int .i64 k ∧ Hid (∀ j, j < k → seqAt params j = true) ∧ Below w2.heap.size w2 wr) (fun i _ => n - (intOf i).toNat)
  case atStart => exact ⟨0, Nat.zero_le _, rfl, Lib.hid fun j h => absurd h (by omega), Below.refl _ _⟩
  case round =>
    obtain ⟨k, hk, rfl, HP, hbr⟩ := hrel
    have hsz := hbr.size
    have hBr := hB2.trans (hbr.mono hB2.size)
    have bR := bA2.step hbr
    have b_0 : wr.cell? ⟨w.heap.size, 0, none⟩ = some (.slice A n c) := bR.cell 0
    by_cases hlt : k < n
    · obtain ⟨g, off, rfl, hg, hcell⟩ := hat (by omega)
      obtain ⟨t, hx, hmem⟩ := at_lt HN.out hlt
      obtain ⟨name, ⟨typ_kind, typ_name, typ_labels, typ_kids⟩⟩ := t
      have c_name : wr.cell? ⟨g, off + k * 5, none⟩ = some (.string name) := cell_lit hBr (by omega) (hcell k 0 _ _ hx (by rw [Param.pd_mk]; rfl))
      have c_typ_kind : wr.cell? ⟨g, off + k * 5 + 1, none⟩ = some (.int .i64 typ_kind) := cell_lit hBr (by omega) (hcell k 1 _ _ hx (by rw [Param.pd_mk]; rfl))
      have c_typ_name : wr.cell? ⟨g, off + k * 5 + 2, none⟩ = some (.string typ_name) := cell_lit hBr (by omega) (hcell k 2 _ _ hx (by rw [Param.pd_mk]; rfl))
      obtain ⟨typ_labelsV, c_typ_labels, r_typ_labels⟩ : ∃ u, wr.cell? ⟨g, off + k * 5 + 3, none⟩ = some u ∧ Rep wr B (.row 1 (typ_labels.flatMap strC)) u := cell_rep hBr (by omega) hB (hcell k 3 _ _ hx (by rw [Param.pd_mk]; rfl))
      have R_typ_labels := Lib.hid r_typ_labels
      clear r_typ_labels
      obtain ⟨typ_kidsV, c_typ_kids, r_typ_kids⟩ : ∃ u, wr.cell? ⟨g, off + k * 5 + 4, none⟩ = some u ∧ Rep wr B (.row 4 (typ_kids.flatMap Ty.pd)) u := cell_rep hBr (by omega) hB (hcell k 4 _ _ hx (by rw [Param.pd_mk]; rfl))
      have R_typ_kids := Lib.hid r_typ_kids
      clear r_typ_kids
      obtain ⟨typ_labelsA, typ_labelsN, typ_labelsC, rfl⟩ := R_typ_labels.out.form
      obtain ⟨typ_kidsA, typ_kidsN, typ_kidsC, rfl⟩ := R_typ_kids.out.form
      have HX := Lib.hid hx
      have HM := Lib.hid hmem
      clear hx hmem
      have hs := parWf (HWP.out _ HM.out)
      have hsa := seq_at HX.out
      rw [parB] at hsa
      simp only at hsa
      have HSA := Lib.hid hsa
      have HTW := Lib.hid hs.2
      have hs1 := hs.1
      have HCELL := Lib.hid hcell
      clear hsa hs hcell hat
      go_wp2_with fail
      obtain ⟨w3, hw3⟩ : ∃ W, W = wr.alloc (.cells #[.string name, .int .i64 typ_kind, .string typ_name, .slice typ_labelsA typ_labelsN typ_labelsC, .slice typ_kidsA typ_kidsN typ_kidsC] 115) := ⟨_, rfl⟩
      rw [← hw3]
      have bE : Blk w3 wr.heap.size 115 #[.string name, .int .i64 typ_kind, .string typ_name, .slice typ_labelsA typ_labelsN typ_labelsC, .slice typ_kidsA typ_kidsN typ_kidsC] := by rw [hw3]; exact Blk.new wr _ _
      have hb3 : Below wr.heap.size wr w3 := by rw [hw3]; exact (Below.refl _ _).alloc (Nat.le_refl _) _
      clear hw3
      have hbr3 := hbr.trans (hb3.mono hbr.size)
      have hB3 := hBr.trans (hb3.mono hBr.size)
      refine (specName_any name hs1 _).mono ?_
      rintro e w4 ⟨rfl, rfl⟩
      cases hnm : nameOk name
      · have HF2 : Hid (R = false) := by show _ = _; rw [HF.out, seq_bad (k := k) (by rw [HSA.out, hnm]; rfl)]
        go_wp2_with fail
        go_ret
        exact ⟨ret_bool HF2.out.symm, hB3⟩
      have e_1 : w3.cell? ⟨wr.heap.size, 1, none⟩ = some (.int .i64 typ_kind) := bE.cell 1
      have e_2 : w3.cell? ⟨wr.heap.size, 2, none⟩ = some (.string typ_name) := bE.cell 2
      have e_3 : w3.cell? ⟨wr.heap.size, 3, none⟩ = some (.slice typ_labelsA typ_labelsN typ_labelsC) := bE.cell 3
      have e_4 : w3.cell? ⟨wr.heap.size, 4, none⟩ = some (.slice typ_kidsA typ_kidsN typ_kidsC) := bE.cell 4
      have hBw3 := Nat.le_trans hB hBr.size
      go_wp2_with fail
      refine (specOk_any ⟨typ_kind, typ_name, typ_labels, typ_kids⟩ (B := B) (cs := [.int .i64 typ_kind, .string typ_name, .slice typ_labelsA typ_labelsN typ_labelsC, .slice typ_kidsA typ_kidsN typ_kidsC]) (Nat.le_trans hB hB3.size) HTW.out (Ty.close_ (R_typ_labels.out.below (hb3.mono hBw3)) (R_typ_kids.out.below (hb3.mono hBw3)))).mono ?_
      rintro e w5 ⟨rfl, hb5⟩
      have bE5 := bE.step hb5
      have hB5 := hB3.trans (hb5.mono hB3.size)
      have hbr5 := hbr3.trans (hb5.mono hbr3.size)
      have bR5 := (bR.step hb3).step hb5
      clear e_1 e_2 e_3 e_4
      cases hto : typeOk ⟨typ_kind, typ_name, typ_labels, typ_kids⟩
      · have HF2 : Hid (R = false) := by show _ = _; rw [HF.out, seq_bad (k := k) (by rw [HSA.out, hnm, hto]; rfl)]
        go_wp2_with fail
        go_ret
        exact ⟨ret_bool HF2.out.symm, hB5⟩
      have e_1 : w5.cell? ⟨wr.heap.size, 1, none⟩ = some (.int .i64 typ_kind) := bE5.cell 1
      by_cases hu : typ_kind = 1
      · have HF2 : Hid (R = false) := by show _ = _; rw [HF.out, seq_bad (k := k) (by rw [HSA.out, hnm, hto, Ty.isUnit, Ty.kind, hu]; rfl)]
        have hke : (typ_kind == 1) = true := by simpa using hu
        clear hu
        go_wp2_with fail
        go_ret
        exact ⟨ret_bool HF2.out.symm, hB5⟩
      have HSB : Hid (seqAt params k = !(params.take k).any (fun y => decide (y.name = name))) := by
        show _ = _
        rw [HSA.out, hnm, hto, Ty.isUnit, Ty.kind, show (typ_kind == 1) = false by simpa using hu]
        rfl
      have hke : (typ_kind == 1) = false := by simpa using hu
      clear hu hnm hto HSA
      have e_0 : w5.cell? ⟨wr.heap.size, 0, none⟩ = some (.string name) := bE5.cell 0
      have d_0 : w5.cell? ⟨w.heap.size, 0, none⟩ = some (.slice (some ⟨g, off, none⟩) n c) := bR5.cell 0
      go_wp2_with fail
      clear e_1 b_0 bR bE bE5 bR5
      obtain ⟨wo, rfl⟩ : ∃ W, W = wr := ⟨_, rfl⟩
      go_loopw [5] (fun j ws => ∃ m : Nat, m ≤ k ∧ j = .int .i64 m ∧ Hid (∀ (j : Nat) (t : Param), j < m → params[j]? = some t → (fun y : Param => decide (y.name = name)) t = false) ∧ ∃ q, ws = w5.drewN q) (fun j _ => k - (intOf j).toNat)
      case atStart => exact ⟨0, Nat.zero_le _, rfl, Lib.hid fun j t h => absurd h (by omega), 0, rfl⟩
      case round =>
        obtain ⟨m, hm2, rfl, HM2, q, rfl⟩ := hrel
        by_cases hlt2 : m < k
        · obtain ⟨t2, hx2, _⟩ := at_lt HN.out (show m < n by omega)
          obtain ⟨name2, ⟨kind2, nam2, lab2, kid2⟩⟩ := t2
          have c2 : w5.cell? ⟨g, off + m * 5, none⟩ = some (.string name2) := cell_lit hB5 (by omega) (HCELL.out m 0 _ _ hx2 (by rw [Param.pd_mk]; rfl))
          have HX2 := Lib.hid hx2
          have hm0 : (0 : Int) ≤ (m : Int) := by omega
          have hmn : (m : Int) < (n : Int) := by omega
          clear hx2
          by_cases hne : name2 = name
          · have HF2 : Hid (R = false) := by
              show _ = _
              rw [HF.out, seq_bad (k := k)]
              rw [HSB.out, Bool.not_eq_false', List.any_eq_true]
              exact ⟨_, List.mem_take_iff_getElem.2 ⟨m, by have := HN.out; omega, (List.getElem?_eq_some_iff.1 HX2.out).2⟩, by simpa using hne⟩
            subst hne
            go_wp2_with fail
            go_quiet (fail)
            go_wp2_with fail
            go_ret
            exact ⟨ret_bool HF2.out.symm, by rw [World.drewN_drewN]; exact below_drewN hB5 _⟩
          · have hs2 : (name2.toList == name.toList) = false := str_ne2 hne
            have HQ := Lib.hid (pre_next HM2.out HX2.out (by simp [hne]))
            clear hne
            go_wp2_with fail
            go_quiet (fail)
            go_wp2_with fail
            go_roundw
            case rel => exact ⟨m + 1, by omega, by go_num, HQ, _, rfl⟩
            case measure => simp [intOf]; omega
        · have hmk : m = k := by omega
          have HQ : Hid (seqAt params k = true) := by
            show _ = _
            rw [HSB.out, Bool.not_eq_true', List.any_eq_false]
            intro y hy
            obtain ⟨j, hj, hje⟩ := List.mem_take_iff_getElem.1 hy
            have := HM2.out j y (by omega) (by rw [List.getElem?_eq_getElem (by omega), hje])
            simpa using this
          have HQ2 := Lib.hid (seq_next HP.out HQ.out)
          obtain rfl : k = m := hmk.symm
          go_wp2_with fail
          go_roundw
          case rel => exact ⟨k + 1, by omega, by go_num, HQ2, below_drewN hbr5 _⟩
          case measure => simp [intOf]; omega
    · have hkn : k = n := by omega
      have HF2 : Hid (R = true) := by show _ = _; rw [HF.out, seq_ok fun j hj => HP.out j (by have := HN.out; omega)]
      subst hkn
      go_wp2_with fail
      go_ret
      exact ⟨ret_bool HF2.out.symm, hBr⟩
end Go.Proofs.YtbafphecjijdmaaGreatDoor

