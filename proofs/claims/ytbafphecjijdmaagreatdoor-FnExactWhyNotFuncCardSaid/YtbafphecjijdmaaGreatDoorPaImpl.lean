/-
  Valid function types of the program: paramsOk, FuncOk (by program: gen_pa.py).
-/
import Derived.Test.YtbafphecjijdmaaGreatDoorPaSpec
import Derived.Test.YtbafphecjijdmaaGreatDoorRowI
import Derived.Test.YtbafphecjijdmaaGreatDoorSorted
namespace Go.Proofs.YtbafphecjijdmaaGreatDoor
open Go.RowKit
set_option linter.unusedVariables false
set_option linter.unusedSimpArgs false
set_option linter.unnecessarySimpa false
set_option maxRecDepth 16000

theorem flatMap_strCp : ∀ xs : List ByteArray, xs.flatMap strC = xs.map fun s => PD.lit (.string s)
  | [] => rfl
  | x :: xs => by rw [List.flatMap_cons, flatMap_strCp xs, strC]; rfl
theorem rep_strs' {w : World} {base n : Nat} {e : TypeId} {v : Value} {xs : List ByteArray} (h : w.ownsRow base e 1 v n (strs xs)) : Rep w w.heap.size (.row 1 (xs.flatMap strC)) v := by
  obtain ⟨A, n', c, rfl, hm, hl, hr⟩ := (Own.of_own h).rd
  rw [Rep]
  refine ⟨A, n', c, rfl, ?_, hm, fun h0 => ?_⟩
  · rw [flatMap_length strC_length]
    simpa [strs] using hl
  · obtain ⟨g, off, rfl, hg, hc⟩ := hr h0
    refine ⟨g, off, rfl, hg, repL_iff.2 fun j x hj => ?_⟩
    rw [flatMap_strCp, List.getElem?_map] at hj
    cases hx : xs[j]? with
    | none => rw [hx] at hj; cases hj
    | some s =>
      rw [hx] at hj
      cases hj
      exact ⟨_, hc j (.string s) (by simp [strs, hx]), by rw [Rep]⟩
theorem one_str' (x : ByteArray) : ∀ u ∈ [Value.string x], u.oneCell' = true := by
  intro u hu
  rw [List.mem_singleton.1 hu]
  rfl
theorem map_take_succ' {α β : Type} {f : α → β} {xs : List α} {k : Nat} {t : α} (h : xs[k]? = some t) : (xs.take (k + 1)).map f = (xs.take k).map f ++ [f t] := by
  rw [List.take_add_one, h, List.map_append]
  rfl
theorem strs_append' (xs ys : List ByteArray) : strs (xs ++ ys) = strs xs ++ strs ys := by simp [strs]
def parsB (ps : List Param) : Bool := !ps.any (fun p => !parB p) && (decide (ps.length ≤ 6) && decide (ps.map Param.name).Nodup)
set_option maxHeartbeats 3200000 in
theorem paramsOk_any {ps : List Param} (hwf : ∀ p ∈ ps, PD.wfL (Param.pd p)) (hz : ∀ p ∈ ps, p.typ.parts ≤ 4194304) (hl : ps.length ≤ 1048576) {B : Nat} {v : Value} {w : World} (hB : B ≤ w.heap.size) (h : Rep w B (.row 5 (ps.flatMap Param.pd)) v) :
    Calls Tryz.prog 83 #[v] w fun e w' => e = .returned (.bool (parsB ps)) ∧ Below w.heap.size w w' := by
  obtain ⟨i0, hi, hz0, hz1, hz2⟩ := info_parts str_info
  obtain ⟨A, n, c, rfl, hnl, hm, hat⟩ := rep_row Param.pd_length (by decide) h
  unfold maxLen at hm
  have hnn : n ≤ 1048576 := by omega
  have HN := Lib.hid hnl
  have HWP := Lib.hid hwf
  have HZ := Lib.hid hz
  obtain ⟨R, hR⟩ : ∃ R : Bool, R = parsB ps := ⟨_, rfl⟩
  rw [← hR]
  rw [parsB] at hR
  have HR := Lib.hid hR
  clear h hnl hwf hz hl hR
  have ho0 : (w.alloc (.cells #[] 9)).ownsRow w.heap.size 9 1 (.slice (some ⟨w.heap.size, 0, none⟩) 0 0) 0 (strs []) := World.ownsRow_made w #[] 0 (Nat.le_refl _) (by simp) (by simp)
  have hb0 : Below w.heap.size w (w.alloc (.cells #[] 9)) := (Below.refl _ _).alloc (Nat.le_refl _) _
  go_enter Tryz.func83, Tryz.ntmps83
  go_wp2_with fail
  go_loopw [3, 9] (fun out i wr => ∃ (k : Nat) (u : Value), u = out ∧ k ≤ n ∧ i = .int .i64 k ∧ Hid (∀ (j : Nat) (t : Param), j < k → ps[j]? = some t → (fun p => !parB p) t = false) ∧ wr.ownsRow w.heap.size 9 1 u k (strs ((ps.take k).map Param.name)) ∧ Below w.heap.size w wr) (fun _ i _ => n - (intOf i).toNat)
  case atStart => exact ⟨0, _, rfl, Nat.zero_le _, rfl, Lib.hid fun j t h => absurd h (by omega), ho0, hb0⟩
  case round =>
    clear ho0 hb0
    obtain ⟨k, u, rfl, hk, rfl, HP, hown, hbr⟩ := hrel
    have hsz := hbr.size
    by_cases hlt : k < n
    · obtain ⟨g, off, rfl, hg, hcell⟩ := hat (by omega)
      obtain ⟨t, hx, hmem⟩ := at_lt HN.out hlt
      obtain ⟨name, ⟨typ_kind, typ_name, typ_labels, typ_kids⟩⟩ := t
      have c_name : wr.cell? ⟨g, off + k * 5, none⟩ = some (.string name) := cell_lit hbr (by omega) (hcell k 0 _ _ hx (by rw [Param.pd_mk]; rfl))
      have c_typ_kind : wr.cell? ⟨g, off + k * 5 + 1, none⟩ = some (.int .i64 typ_kind) := cell_lit hbr (by omega) (hcell k 1 _ _ hx (by rw [Param.pd_mk]; rfl))
      have c_typ_name : wr.cell? ⟨g, off + k * 5 + 2, none⟩ = some (.string typ_name) := cell_lit hbr (by omega) (hcell k 2 _ _ hx (by rw [Param.pd_mk]; rfl))
      obtain ⟨typ_labelsV, c_typ_labels, r_typ_labels⟩ : ∃ u, wr.cell? ⟨g, off + k * 5 + 3, none⟩ = some u ∧ Rep wr B (.row 1 (typ_labels.flatMap strC)) u := cell_rep hbr (by omega) hB (hcell k 3 _ _ hx (by rw [Param.pd_mk]; rfl))
      have R_typ_labels := Lib.hid r_typ_labels
      clear r_typ_labels
      obtain ⟨typ_kidsV, c_typ_kids, r_typ_kids⟩ : ∃ u, wr.cell? ⟨g, off + k * 5 + 4, none⟩ = some u ∧ Rep wr B (.row 4 (typ_kids.flatMap Ty.pd)) u := cell_rep hbr (by omega) hB (hcell k 4 _ _ hx (by rw [Param.pd_mk]; rfl))
      have R_typ_kids := Lib.hid r_typ_kids
      clear r_typ_kids
      obtain ⟨typ_labelsA, typ_labelsN, typ_labelsC, rfl⟩ := R_typ_labels.out.form
      obtain ⟨typ_kidsA, typ_kidsN, typ_kidsC, rfl⟩ := R_typ_kids.out.form
      have HX := Lib.hid hx
      have HM := Lib.hid hmem
      clear hx hmem
      clear hcell
      have HMS := Lib.hid (map_take_succ' (f := Param.name) HX.out)
      have hs := parWf (HWP.out _ HM.out)
      have hs1 := hs.1
      have HTW := Lib.hid hs.2
      have HZ1 := Lib.hid (HZ.out _ HM.out)
      have HPB : Hid (parB ⟨name, ⟨typ_kind, typ_name, typ_labels, typ_kids⟩⟩ = (nameOk name && (typeOk ⟨typ_kind, typ_name, typ_labels, typ_kids⟩ && !Ty.isUnit ⟨typ_kind, typ_name, typ_labels, typ_kids⟩))) := rfl
      have HOW := Lib.hid hown
      have hBw := Nat.le_trans hB hsz
      clear hs hown
      go_wp2_with fail
      obtain ⟨w1, hw1⟩ : ∃ W, W = wr.alloc (.cells #[.string name, .int .i64 typ_kind, .string typ_name, .slice typ_labelsA typ_labelsN typ_labelsC, .slice typ_kidsA typ_kidsN typ_kidsC] 115) := ⟨_, rfl⟩
      rw [← hw1]
      have bE : Blk w1 wr.heap.size 115 #[.string name, .int .i64 typ_kind, .string typ_name, .slice typ_labelsA typ_labelsN typ_labelsC, .slice typ_kidsA typ_kidsN typ_kidsC] := by rw [hw1]; exact Blk.new wr _ _
      have hb1 : Below wr.heap.size wr w1 := by rw [hw1]; exact (Below.refl _ _).alloc (Nat.le_refl _) _
      clear hw1
      have hB1 := hbr.trans (hb1.mono hsz)
      refine (implName_any name hs1 _).mono ?_
      rintro e w2 ⟨rfl, hb2⟩
      have hB2 := hB1.trans (hb2.mono hB1.size)
      have hb12 := hb1.trans (hb2.mono hb1.size)
      have bE2 := bE.step hb2
      clear bE
      cases hnm : nameOk name
      · have HF : Hid (R = false) := by show _ = _; rw [HR.out, any_hit HX.out (by simp [HPB.out, hnm])]; rfl
        go_wp2_with fail
        go_ret
        exact ⟨ret_bool HF.out.symm, hB2⟩
      have e_1 : w2.cell? ⟨wr.heap.size, 1, none⟩ = some (.int .i64 typ_kind) := bE2.cell 1
      have e_2 : w2.cell? ⟨wr.heap.size, 2, none⟩ = some (.string typ_name) := bE2.cell 2
      have e_3 : w2.cell? ⟨wr.heap.size, 3, none⟩ = some (.slice typ_labelsA typ_labelsN typ_labelsC) := bE2.cell 3
      have e_4 : w2.cell? ⟨wr.heap.size, 4, none⟩ = some (.slice typ_kidsA typ_kidsN typ_kidsC) := bE2.cell 4
      go_wp2_with fail
      refine (implTypeOk_any ⟨typ_kind, typ_name, typ_labels, typ_kids⟩ (B := B) (cs := [.int .i64 typ_kind, .string typ_name, .slice typ_labelsA typ_labelsN typ_labelsC, .slice typ_kidsA typ_kidsN typ_kidsC]) (Nat.le_trans hB hB2.size) HTW.out HZ1.out (Ty.close_ (R_typ_labels.out.below (hb12.mono hBw)) (R_typ_kids.out.below (hb12.mono hBw)))).mono ?_
      rintro e w3 ⟨rfl, hb3⟩
      have hB3 := hB2.trans (hb3.mono hB2.size)
      have hb13 := hb12.trans (hb3.mono hb12.size)
      have bE3 := bE2.step hb3
      clear bE2 e_1 e_2 e_3 e_4
      cases hto : typeOk ⟨typ_kind, typ_name, typ_labels, typ_kids⟩
      · have HF : Hid (R = false) := by show _ = _; rw [HR.out, any_hit HX.out (by simp [HPB.out, hnm, hto])]; rfl
        go_wp2_with fail
        go_ret
        exact ⟨ret_bool HF.out.symm, hB3⟩
      have e_1 : w3.cell? ⟨wr.heap.size, 1, none⟩ = some (.int .i64 typ_kind) := bE3.cell 1
      have e_2 : w3.cell? ⟨wr.heap.size, 2, none⟩ = some (.string typ_name) := bE3.cell 2
      have e_3 : w3.cell? ⟨wr.heap.size, 3, none⟩ = some (.slice typ_labelsA typ_labelsN typ_labelsC) := bE3.cell 3
      have e_4 : w3.cell? ⟨wr.heap.size, 4, none⟩ = some (.slice typ_kidsA typ_kidsN typ_kidsC) := bE3.cell 4
      go_wp2_with fail
      refine (isUnit_any ⟨typ_kind, typ_name, typ_labels, typ_kids⟩ (B := B) (cs := [.int .i64 typ_kind, .string typ_name, .slice typ_labelsA typ_labelsN typ_labelsC, .slice typ_kidsA typ_kidsN typ_kidsC]) (Ty.close_ (R_typ_labels.out.below (hb13.mono hBw)) (R_typ_kids.out.below (hb13.mono hBw)))).mono ?_
      rintro e w4 ⟨rfl, hb4⟩
      have hB4 := hB3.trans (hb4.mono hB3.size)
      have hb14 := hb13.trans (hb4.mono hb13.size)
      have bE4 := bE3.step hb4
      clear bE3 e_1 e_2 e_3 e_4
      cases hu : Ty.isUnit ⟨typ_kind, typ_name, typ_labels, typ_kids⟩
      case true =>
        have HF : Hid (R = false) := by show _ = _; rw [HR.out, any_hit HX.out (by simp [HPB.out, hnm, hto, hu])]; rfl
        go_wp2_with fail
        go_ret
        exact ⟨ret_bool HF.out.symm, hB4⟩
      have HQ := Lib.hid (pre_next HP.out HX.out (by simp [HPB.out, hnm, hto, hu]))
      have e_0 : w4.cell? ⟨wr.heap.size, 0, none⟩ = some (.string name) := bE4.cell 0
      have hs4 := (owns_step HOW.out hb14).alloc (.cells #[Value.string name] 9)
      have hc1 := cell_one_new w4 (Value.string name) 9
      have hB5 : Below w.heap.size w (w4.alloc (.cells #[Value.string name] 9)) := hB4.alloc hB4.size _
      clear hnm hto hu bE4
      go_wp2_with (at_builtin; refine wpList_append_own _ rfl _ _ 22 rfl w.heap.size 9 i0 (.string { data := #[] }) 1 16 Tryz.underlying22 hi hz0 hz1 hz2 rfl (by decide) _ _ _ rfl hs4 ⟨w4.heap.size, 0, none⟩ 1 1 [_] rfl rfl hc1 (one_str' _) (by simp only [maxLen]; omega) (by omega) hB5.size ?_; intro v' w5 hown' hgrow _)
      have hB6 := hB5.grown hgrow hB5.size (fun g hg => (hs4.lt g hg).1)
      have HOW2 := Lib.hid hown'
      clear hs4 hc1 hown' hgrow
      go_roundw
      case rel => exact ⟨k + 1, _, rfl, by omega, by go_num, HQ, by rw [HMS.out, strs_append']; exact HOW2.out, hB6⟩
      case measure => simp [intOf]; omega
    · have hkn : k = n := by omega
      have HT : Hid (ps.take k = ps) := List.take_of_length_le (by have := HN.out; omega)
      rw [HT.out] at hown
      have LI := Lib.hid (rep_strs' hown)
      have hll : (ps.map Param.name).length ≤ 1048576 := by rw [List.length_map]; have := HN.out; omega
      have HA : Hid (R = (decide (ps.length ≤ 6) && decide (ps.map Param.name).Nodup)) := by show _ = _; rw [HR.out, any_none (n := k) (by have := HN.out; omega) HP.out]; rfl
      clear hown
      subst hkn
      by_cases hn6 : k ≤ 6
      · have HF : Hid (R = decide (ps.map Param.name).Nodup) := by show _ = _; rw [HA.out, decide_eq_true (by have := HN.out; omega), Bool.true_and]
        go_wp2_with fail
        refine (distinct_any (Nat.le_refl _) hll LI.out).mono ?_
        rintro e w2 ⟨rfl, hb2⟩
        go_wp2_with fail
        go_ret
        exact ⟨ret_bool HF.out.symm, hbr.trans (hb2.mono hsz)⟩
      · have HF : Hid (R = false) := by show _ = _; rw [HA.out, decide_eq_false (by have := HN.out; omega)]; rfl
        go_wp2_with fail
        go_ret
        exact ⟨ret_bool HF.out.symm, hbr⟩
set_option maxHeartbeats 1600000 in
theorem implFunc_any (f : FuncType) (hl : f.params.length ≤ 1048576) (hz : ∀ p ∈ f.params, p.typ.parts ≤ 4194304) (hr : f.result.parts ≤ 4194304) {B : Nat} {cs : List Value} {w : World} (hB : B ≤ w.heap.size) (hwf : PD.wfL (FuncType.pd f)) (h : RepC w B (FuncType.pd f) cs) :
    Calls Tryz.prog 49 #[.agg cs.toArray] w fun e w' => e = .returned (.bool (funcB f)) ∧ Below w.heap.size w w' := by
  obtain ⟨params, ⟨result_kind, result_name, result_labels, result_kids⟩, async⟩ := f
  simp only at hl hz hr
  obtain ⟨hwp, hwr⟩ := funWf hwf
  have HWP := Lib.hid hwp
  have HWR := Lib.hid hwr
  have HZ := Lib.hid hz
  have HZR := Lib.hid hr
  obtain ⟨R, hR⟩ : ∃ R : Bool, R = funcB ⟨params, ⟨result_kind, result_name, result_labels, result_kids⟩, async⟩ := ⟨_, rfl⟩
  rw [← hR]
  have hR2 : R = (parsB params && (typeOk ⟨result_kind, result_name, result_labels, result_kids⟩ && !Ty.has 21 21 ⟨result_kind, result_name, result_labels, result_kids⟩)) := by
    rw [hR, funcB, parsB]
    simp only
    cases decide (params.length ≤ 6) <;> cases typeOk ⟨result_kind, result_name, result_labels, result_kids⟩ <;> cases Ty.has 21 21 ⟨result_kind, result_name, result_labels, result_kids⟩ <;> cases (params.any fun p => !parB p) <;> cases decide (params.map Param.name).Nodup <;> rfl
  have HR := Lib.hid hR2
  clear hR hR2
  obtain ⟨paramsV, result_labelsV, result_kidsV, rfl, r_params, r_result_labels, r_result_kids⟩ := FuncType.open_ h
  have R_params := Lib.hid r_params
  clear r_params
  have R_result_labels := Lib.hid r_result_labels
  clear r_result_labels
  have R_result_kids := Lib.hid r_result_kids
  clear r_result_kids
  obtain ⟨A, n, c, rfl⟩ := R_params.out.form
  clear h hwf hwp hwr hz hr
  go_enter Tryz.func49, Tryz.ntmps49
  go_wp2_with fail
  obtain ⟨w0, hw0⟩ : ∃ W, W = w.alloc (.cells #[.slice A n c, .int .i64 result_kind, .string result_name, result_labelsV, result_kidsV, .bool async] 62) := ⟨_, rfl⟩
  rw [← hw0]
  have bA : Blk w0 w.heap.size 62 #[.slice A n c, .int .i64 result_kind, .string result_name, result_labelsV, result_kidsV, .bool async] := by rw [hw0]; exact Blk.new w _ _
  have hB0 : Below w.heap.size w w0 := by rw [hw0]; exact (Below.refl _ _).alloc (Nat.le_refl _) _
  clear hw0
  refine (paramsOk_any HWP.out HZ.out hl (Nat.le_trans hB hB0.size) (R_params.out.below (hB0.mono hB))).mono ?_
  rintro e w1 ⟨rfl, hb1⟩
  have hB1 := hB0.trans (hb1.mono hB0.size)
  have bA1 := bA.step hb1
  clear bA
  cases hp : parsB params
  · have HF : Hid (R = false) := by show _ = _; rw [HR.out, hp]; rfl
    go_wp2_with fail
    go_ret
    exact ⟨ret_bool HF.out.symm, hB1⟩
  have a_params : w1.cell? ⟨w.heap.size, 0, none⟩ = some (.slice A n c) := bA1.cell 0
  have a_result_kind : w1.cell? ⟨w.heap.size, 1, none⟩ = some (.int .i64 result_kind) := bA1.cell 1
  have a_result_name : w1.cell? ⟨w.heap.size, 2, none⟩ = some (.string result_name) := bA1.cell 2
  have a_result_labels : w1.cell? ⟨w.heap.size, 3, none⟩ = some (result_labelsV) := bA1.cell 3
  have a_result_kids : w1.cell? ⟨w.heap.size, 4, none⟩ = some (result_kidsV) := bA1.cell 4
  have a_async : w1.cell? ⟨w.heap.size, 5, none⟩ = some (.bool async) := bA1.cell 5
  go_wp2_with fail
  refine (implTypeOk_any ⟨result_kind, result_name, result_labels, result_kids⟩ (B := B) (cs := [.int .i64 result_kind, .string result_name, result_labelsV, result_kidsV]) (Nat.le_trans hB hB1.size) HWR.out HZR.out (Ty.close_ (R_result_labels.out.below (hB1.mono hB)) (R_result_kids.out.below (hB1.mono hB)))).mono ?_
  rintro e w2 ⟨rfl, hb2⟩
  have hB2 := hB1.trans (hb2.mono hB1.size)
  have bA2 := bA1.step hb2
  clear bA1 a_params a_result_kind a_result_name a_result_labels a_result_kids a_async
  cases hok : typeOk ⟨result_kind, result_name, result_labels, result_kids⟩
  · have HF : Hid (R = false) := by show _ = _; rw [HR.out, hp, hok]; rfl
    go_wp2_with fail
    go_ret
    exact ⟨ret_bool HF.out.symm, hB2⟩
  have HF : Hid (R = !Ty.has 21 21 ⟨result_kind, result_name, result_labels, result_kids⟩) := by show _ = _; rw [HR.out, hp, hok]; rfl
  clear hp hok HR
  have a_params : w2.cell? ⟨w.heap.size, 0, none⟩ = some (.slice A n c) := bA2.cell 0
  have a_result_kind : w2.cell? ⟨w.heap.size, 1, none⟩ = some (.int .i64 result_kind) := bA2.cell 1
  have a_result_name : w2.cell? ⟨w.heap.size, 2, none⟩ = some (.string result_name) := bA2.cell 2
  have a_result_labels : w2.cell? ⟨w.heap.size, 3, none⟩ = some (result_labelsV) := bA2.cell 3
  have a_result_kids : w2.cell? ⟨w.heap.size, 4, none⟩ = some (result_kidsV) := bA2.cell 4
  have a_async : w2.cell? ⟨w.heap.size, 5, none⟩ = some (.bool async) := bA2.cell 5
  go_wp2_with fail
  obtain ⟨w3, hw3⟩ : ∃ W, W = w2.alloc (.cells #[.int .i64 21] 2) := ⟨_, rfl⟩
  rw [← hw3]
  have hbk : Below w2.heap.size w2 w3 := by rw [hw3]; exact (Below.refl _ _).alloc (Nat.le_refl _) _
  have bK : Blk w3 w2.heap.size 2 #[.int .i64 21] := by rw [hw3]; exact Blk.new _ _ _
  clear hw3
  have hB3 := hB2.trans (hbk.mono hB2.size)
  have rk : Rep w3 w3.heap.size (.row 1 ([21].flatMap intC)) (.slice (some ⟨w2.heap.size, 0, none⟩) 1 1) := rep_one21 (bK.cell 0) bK.lt
  refine (hasKind_all ⟨result_kind, result_name, result_labels, result_kids⟩ w3.heap.size [.int .i64 result_kind, .string result_name, result_labelsV, result_kidsV] _ _ (Nat.le_refl _) (Ty.close_ ((R_result_labels.out.below (hB3.mono hB)).more (Nat.le_trans hB hB3.size)) ((R_result_kids.out.below (hB3.mono hB)).more (Nat.le_trans hB hB3.size))) rk).mono ?_
  rintro e w4 ⟨rfl, hb4⟩
  go_wp2_with fail
  go_ret
  exact ⟨ret_bool HF.out.symm, hB3.trans (hb4.mono hB3.size)⟩
end Go.Proofs.YtbafphecjijdmaaGreatDoor

