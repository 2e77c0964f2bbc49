/-
  The program's well-formed modules: ModuleShape.
-/
import Derived.Test.YtflpfcnpjadccaaGreatDoorMoImpl
import Derived.Test.YtflpfcnpjadccaaGreatDoorRowI
namespace Go.Proofs.YtflpfcnpjadccaaGreatDoor
open Go.RowKit
set_option linter.unusedVariables false
set_option linter.unusedSimpArgs false
set_option linter.unnecessarySimpa false
set_option maxRecDepth 16000
theorem flatMap_strC : ∀ xs : List ByteArray, xs.flatMap strC = xs.map fun s => PD.lit (.string s)
  | [] => rfl
  | x :: xs => by rw [List.flatMap_cons, flatMap_strC xs, strC]; rfl
theorem rep_strs {w : World} {base n : Nat} {e : TypeId} {v : Value} {xs : List ByteArray} (h : w.ownsRow base e 1 v n (strs xs)) : Rep w w.heap.size (.row 1 (xs.flatMap strC)) v := by
  obtain ⟨A, n', c, rfl, hm, hl, hr⟩ := (Own.of_own h).rd
  rw [Rep]
  refine ⟨A, n', c, rfl, ?_, hm, fun h0 => ?_⟩
  · rw [flatMap_length strC_length]
    simpa [strs] using hl
  · obtain ⟨g, off, rfl, hg, hc⟩ := hr h0
    refine ⟨g, off, rfl, hg, repL_iff.2 fun j x hj => ?_⟩
    rw [flatMap_strC, List.getElem?_map] at hj
    cases hx : xs[j]? with
    | none => rw [hx] at hj; cases hj
    | some s =>
      rw [hx] at hj
      cases hj
      exact ⟨_, hc j (.string s) (by simp [strs, hx]), by rw [Rep]⟩
theorem one_str (x : ByteArray) : ∀ u ∈ [Value.string x], u.oneCell' = true := by
  intro u hu
  rw [List.mem_singleton.1 hu]
  rfl
theorem map_take_succ {α β : Type} {f : α → β} {xs : List α} {k : Nat} {t : α} (h : xs[k]? = some t) : (xs.take (k + 1)).map f = (xs.take k).map f ++ [f t] := by
  rw [List.take_add_one, h, List.map_append]
  rfl
theorem strs_append (xs ys : List ByteArray) : strs (xs ++ ys) = strs xs ++ strs ys := by simp [strs]
theorem owns_far {w w' : World} {base sz n : Nat} {e : TypeId} {v : Value} {xs : List Value} {row : Option Nat} (h : w.ownsRow base e sz v n xs) (hg : w.grownBy w' row) (hne : ∀ g, v.ownBlock = some g → row ≠ some g) : w'.ownsRow base e sz v n xs := by
  obtain ⟨h1, h2⟩ := h
  refine ⟨h1, ?_⟩
  rcases h2 with h2 | ⟨g, cap, cur, rfl, hbb, hh, hr⟩
  · exact .inl h2
  · exact .inr ⟨g, cap, cur, rfl, hbb, by rw [hg.block g (Array.getElem?_eq_some_iff.1 hh).1 (fun e => hne g rfl e.symm)]; exact hh, hr⟩
set_option maxHeartbeats 3200000 in
theorem implShapeM_any (m : Mod) {B : Nat} {cs : List Value} {w : World} (hB : B ≤ w.heap.size) (hwf : PD.wfL (Mod.pd m)) (h : RepC w B (Mod.pd m) cs) :
    Calls Tryz.prog 20 #[.agg cs.toArray] w fun e w' => e = .returned (.bool (modB m)) ∧ Below w.heap.size w w' := by
  obtain ⟨i0, hi, hz0, hz1, hz2⟩ := info_parts str_info
  obtain ⟨pages, imports, cores⟩ := m
  obtain ⟨hwi, hwc⟩ := modWf hwf
  have HWI := Lib.hid hwi
  have HWC := Lib.hid hwc
  obtain ⟨R, hR⟩ : ∃ R : Bool, R = modB ⟨pages, imports, cores⟩ := ⟨_, rfl⟩
  rw [← hR]
  rw [modB] at hR
  simp only at hR
  have HR := Lib.hid hR
  clear hR
  obtain ⟨importsV, coresV, rfl, r_imports, r_cores⟩ := Mod.open_ h
  have R_imports := Lib.hid r_imports
  clear r_imports
  have R_cores := Lib.hid r_cores
  clear r_cores
  obtain ⟨A, n, c, rfl, hnl, hm, hat⟩ := rep_row Imp.pd_length (by decide) R_imports.out
  obtain ⟨A', n', c', rfl, hnl', hm', hat'⟩ := rep_row Core.pd_length (by decide) R_cores.out
  unfold maxLen at hm hm'
  have HN := Lib.hid hnl
  have HN' := Lib.hid hnl'
  clear h hnl hnl' hwf hwi hwc
  go_enter Tryz.func20, Tryz.ntmps20
  go_wp2_with fail
  obtain ⟨w0, hw0⟩ : ∃ W, W = w.alloc (.cells #[.int .i64 pages, .slice A n c, .slice A' n' c'] 31) := ⟨_, rfl⟩
  rw [← hw0]
  have bA : Blk w0 w.heap.size 31 #[.int .i64 pages, .slice A n c, .slice A' n' c'] := by rw [hw0]; exact Blk.new w _ _
  have hB0 : Below w.heap.size w w0 := by rw [hw0]; exact (Below.refl _ _).alloc (Nat.le_refl _) _
  clear hw0
  have a0_0 : w0.cell? ⟨w.heap.size, 0, none⟩ = some (.int .i64 pages) := bA.cell 0
  have a0_1 : w0.cell? ⟨w.heap.size, 1, none⟩ = some (.slice A n c) := bA.cell 1
  have a0_2 : w0.cell? ⟨w.heap.size, 2, none⟩ = some (.slice A' n' c') := bA.cell 2
  try go_wp2_with fail
  refine (within_any _ _ _ _).mono ?_
  rintro e w1 ⟨rfl, rfl⟩
  cases hp : inB pages 1 16
  · have HF : Hid (R = false) := by show _ = _; rw [HR.out, hp]; rfl
    go_wp2_with fail
    go_ret
    exact ⟨ret_bool HF.out.symm, hB0⟩
  by_cases hn : n ≤ 12
  case neg =>
    have HF : Hid (R = false) := by show _ = _; rw [HR.out, hp, decide_eq_false (show ¬ imports.length ≤ 12 by have := HN.out; omega)]; rfl
    go_wp2_with fail
    go_ret
    exact ⟨ret_bool HF.out.symm, hB0⟩
  by_cases hn' : n' ≤ 8
  case neg =>
    have HF : Hid (R = false) := by show _ = _; rw [HR.out, hp, decide_eq_true (show imports.length ≤ 12 by have := HN.out; omega), decide_eq_false (show ¬ cores.length ≤ 8 by have := HN'.out; omega)]; rfl
    go_wp2_with fail
    go_ret
    exact ⟨ret_bool HF.out.symm, hB0⟩
  have HF : Hid (R = (!imports.any (fun x => !impB x) && (!cores.any (fun c => !coreB c) && (namesB (imports.map Imp.name) && namesB (cores.map Core.name))))) := by
    show _ = _
    rw [HR.out, hp, decide_eq_true (show imports.length ≤ 12 by have := HN.out; omega), decide_eq_true (show cores.length ≤ 8 by have := HN'.out; omega)]
    rfl
  clear hp HR
  have hsz1 : (w0.alloc (.cells #[] 9)).heap.size = w0.heap.size + 1 := by simp
  have a1_1 : ((w0.alloc (.cells #[] 9)).alloc (.cells #[] 9)).cell? ⟨w.heap.size, 1, none⟩ = some (.slice A n c) := ((bA.alloc _).alloc _).cell 1
  go_wp2_with fail
  obtain ⟨wa, hwa⟩ : ∃ W, W = w0.alloc (.cells #[] 9) := ⟨_, rfl⟩
  obtain ⟨wb, hwb⟩ : ∃ W, W = wa.alloc (.cells #[] 9) := ⟨_, rfl⟩
  rw [← hwa, ← hwb]
  rw [← hwa] at hsz1
  have hBa : Below w0.heap.size w0 wa := by rw [hwa]; exact (Below.refl _ _).alloc (Nat.le_refl _) _
  have hBb : Below w0.heap.size w0 wb := by rw [hwb]; exact hBa.alloc hBa.size _
  have row1 : wb.ownsRow w0.heap.size 9 1 (.slice (some ⟨w0.heap.size, 0, none⟩) 0 0) 0 (strs []) := by
    rw [hwb]
    refine World.ownsRow.alloc ?_ _
    rw [hwa]
    exact World.ownsRow_made w0 #[] 0 (Nat.le_refl _) (by simp) (by simp)
  have row2 : wb.ownsRow w0.heap.size 9 1 (.slice (some ⟨w0.heap.size + 1, 0, none⟩) 0 0) 0 (strs []) := by
    rw [hwb, ← hsz1]
    exact World.ownsRow_made wa #[] 0 hBa.size (by simp) (by simp)
  have hszb : wb.heap.size = w0.heap.size + 2 := by rw [hwb, hwa]; simp
  clear hwa hwb hsz1 hBa a1_1 a0_0 a0_1 a0_2
  have hw0 := bA.lt
  go_loopw [3, 30] (fun v1_ i wr => ∃ (k : Nat) (v1 : Value), v1 = v1_ ∧ k ≤ n ∧ i = .int .i64 k ∧ Hid (∀ (j : Nat) (t : Imp), j < k → imports[j]? = some t → (fun x => !impB x) t = false) ∧ wr.ownsRow w0.heap.size 9 1 v1 k (strs ((imports.take k).map Imp.name)) ∧ Hid (v1.ownBlock ≠ some (w0.heap.size + 1)) ∧ wr.ownsRow w0.heap.size 9 1 (.slice (some ⟨w0.heap.size + 1, 0, none⟩) 0 0) 0 (strs []) ∧ w0.heap.size + 2 ≤ wr.heap.size ∧ Below w0.heap.size w0 wr) (fun _ i _ => n - (intOf i).toNat)
  case atStart => exact ⟨0, _, rfl, Nat.zero_le _, rfl, Lib.hid fun j t h => absurd h (by omega), row1, Lib.hid (by simp [Value.ownBlock]), row2, by omega, hBb⟩
  case round =>
    clear row1 row2 hBb hszb
    obtain ⟨k, v1, rfl, hk, rfl, HP, hown, HNE, hrow2, hszr, hbr⟩ := hrel
    have hBr := hB0.trans (hbr.mono hB0.size)
    have bR := bA.below hbr hw0
    by_cases hlt : k < n
    · obtain ⟨g, off, rfl, hg, hcell⟩ := hat (by omega)
      obtain ⟨t, hx, hmem⟩ := at_lt HN.out hlt
      obtain ⟨name, params, result⟩ := t
      have c_name : wr.cell? ⟨g, off + k * 3, none⟩ = some (.string name) := cell_lit hBr (by omega) (hcell k 0 _ _ hx (by rw [Imp.pd_mk]; rfl))
      have c_params : wr.cell? ⟨g, off + k * 3 + 1, none⟩ = some (.int .i64 params) := cell_lit hBr (by omega) (hcell k 1 _ _ hx (by rw [Imp.pd_mk]; rfl))
      have c_result : wr.cell? ⟨g, off + k * 3 + 2, none⟩ = some (.bool result) := cell_lit hBr (by omega) (hcell k 2 _ _ hx (by rw [Imp.pd_mk]; rfl))
      have HX := Lib.hid hx
      have HM := Lib.hid hmem
      clear hx hmem
      clear hcell
      have HMS := Lib.hid (map_take_succ (f := Imp.name) HX.out)
      go_wp2_with fail
      obtain ⟨w1, hw1⟩ : ∃ W, W = wr.alloc (.cells #[.string name, .int .i64 params, .bool result] 68) := ⟨_, rfl⟩
      rw [← hw1]
      have bE : Blk w1 wr.heap.size 68 #[.string name, .int .i64 params, .bool result] := by rw [hw1]; exact Blk.new wr _ _
      have hb1 : Below wr.heap.size wr w1 := by rw [hw1]; exact (Below.refl _ _).alloc (Nat.le_refl _) _
      clear hw1
      have hbr1 := hbr.trans (hb1.mono hbr.size)
      have hB1 := hBr.trans (hb1.mono hBr.size)
      refine (within_any _ _ _ _).mono ?_
      rintro e w2 ⟨rfl, rfl⟩
      cases hin : inB params 0 8
      · have HF2 : Hid (R = false) := by show _ = _; rw [HF.out, any_hit HX.out (by simp [impB, hin])]; rfl
        go_wp2_with fail
        go_ret
        exact ⟨ret_bool HF2.out.symm, hB1⟩
      · have HQ := Lib.hid (pre_next HP.out HX.out (by simp [impB, hin]))
        have e_0 : w1.cell? ⟨wr.heap.size, 0, none⟩ = some (.string name) := bE.cell 0
        have hown1 := owns_step hown hb1
        have hs1 := hown1.alloc (.cells #[Value.string name] 9)
        have hr1 := (owns_step hrow2 hb1).alloc (.cells #[Value.string name] 9)
        have hc1 := cell_one_new w1 (Value.string name) 9
        have hbr2 : Below w0.heap.size w0 (w1.alloc (.cells #[Value.string name] 9)) := hbr1.alloc hbr1.size _
        have hs3 : w0.heap.size + 2 ≤ (w1.alloc (.cells #[Value.string name] 9)).heap.size := by have := hb1.size; simp; omega
        clear hown hown1 HP hrow2
        go_wp2_with (at_builtin; refine wpList_append_own_at _ rfl _ _ 47 rfl w0.heap.size 9 i0 (.string { data := #[] }) 1 16 Tryz.underlying47 hi hz0 hz1 hz2 rfl (by decide) _ _ _ rfl hs1 ⟨w1.heap.size, 0, none⟩ 1 1 [_] rfl rfl hc1 (one_str _) (by simp only [maxLen]; omega) (by omega) hbr2.size ?_; intro v' w3 hown' hgrow _ hat2)
        have hs4 := hgrow.size
        have hbr3 := hbr2.grown hgrow hbr2.size (fun g hg => (hs1.lt g hg).1)
        have hr3 := owns_far hr1 hgrow (fun g hg e => HNE.out (e.trans (hg.symm.trans rfl)))
        have HNE2 : Hid (v'.ownBlock ≠ some (w0.heap.size + 1)) := fun e => by
          rcases hat2 with h | h
          · exact HNE.out (h ▸ e)
          · rw [h] at e
            have := Option.some.inj e
            omega
        clear hat2 hs1 hr1 hc1
        go_roundw
        case rel => exact ⟨k + 1, _, rfl, by omega, by go_num, HQ, by rw [HMS.out, strs_append]; exact hown', HNE2, hr3, by omega, hbr3⟩
        case measure => simp [intOf]; omega
    · have hkn : k = n := by omega
      have HF1 : Hid (R = (!cores.any (fun c => !coreB c) && (namesB (imports.map Imp.name) && namesB (cores.map Core.name)))) := by show _ = _; rw [HF.out, any_none (n := k) (by have := HN.out; omega) HP.out]; rfl
      have HT : Hid (imports.take k = imports) := List.take_of_length_le (by have := HN.out; omega)
      rw [HT.out] at hown
      clear HF HP
      subst hkn
      obtain ⟨k1, hk1⟩ : ∃ k1, k1 = k := ⟨_, rfl⟩
      rw [← hk1] at hown
      obtain ⟨wo, rfl⟩ : ∃ W, W = wr := ⟨_, rfl⟩
      have b_2 : wo.cell? ⟨w.heap.size, 2, none⟩ = some (.slice A' n' c') := bR.cell 2
      go_wp2_with fail
      go_loopw [4, 47] (fun v2 i ws => ∃ k : Nat, k ≤ n' ∧ i = .int .i64 k ∧ Hid (∀ (j : Nat) (t : Core), j < k → cores[j]? = some t → (fun x => !coreB x) t = false) ∧ ws.ownsRow w0.heap.size 9 1 v2 k (strs ((cores.take k).map Core.name)) ∧ Hid (∀ g, v1.ownBlock = some g → v2.ownBlock ≠ some g) ∧ ws.ownsRow w0.heap.size 9 1 v1 k1 (strs (imports.map Imp.name)) ∧ Below w0.heap.size w0 ws) (fun _ i _ => n' - (intOf i).toNat)
      case atStart => exact ⟨0, Nat.zero_le _, rfl, Lib.hid fun j t h => absurd h (by omega), hrow2, Lib.hid (fun g hg e => HNE.out (hg.trans (e.symm.trans rfl))), hown, hbr⟩
      case round =>
        clear hown hrow2 HNE
        obtain ⟨k, hk, rfl, HP, hown, HNE, hrow1, hbs⟩ := hrel
        obtain ⟨ws, rfl⟩ : ∃ W, W = wr := ⟨_, rfl⟩
        have hBs := hB0.trans (hbs.mono hB0.size)
        by_cases hlt : k < n'
        · obtain ⟨g, off, rfl, hg, hcell⟩ := hat' (by omega)
          obtain ⟨t, hx, hmem⟩ := at_lt HN'.out hlt
          obtain ⟨name, params, locals, result, code⟩ := t
          have c_name : ws.cell? ⟨g, off + k * 5, none⟩ = some (.string name) := cell_lit hBs (by omega) (hcell k 0 _ _ hx (by rw [Core.pd_mk]; rfl))
          have c_params : ws.cell? ⟨g, off + k * 5 + 1, none⟩ = some (.int .i64 params) := cell_lit hBs (by omega) (hcell k 1 _ _ hx (by rw [Core.pd_mk]; rfl))
          have c_locals : ws.cell? ⟨g, off + k * 5 + 2, none⟩ = some (.int .i64 locals) := cell_lit hBs (by omega) (hcell k 2 _ _ hx (by rw [Core.pd_mk]; rfl))
          have c_result : ws.cell? ⟨g, off + k * 5 + 3, none⟩ = some (.bool result) := cell_lit hBs (by omega) (hcell k 3 _ _ hx (by rw [Core.pd_mk]; rfl))
          obtain ⟨codeV, c_code, r_code⟩ : ∃ u, ws.cell? ⟨g, off + k * 5 + 4, none⟩ = some u ∧ Rep ws B (.row 2 (code.flatMap Ins.pd)) u := cell_rep hBs (by omega) hB (hcell k 4 _ _ hx (by rw [Core.pd_mk]; rfl))
          have R_code := Lib.hid r_code
          clear r_code
          obtain ⟨codeA, codeN, codeC, rfl⟩ := R_code.out.form
          have HX := Lib.hid hx
          have HM := Lib.hid hmem
          clear hx hmem
          clear hcell
          have HMS := Lib.hid (map_take_succ (f := Core.name) HX.out)
          have RC := Lib.hid (Core.close_ (name := name) (params := params) (locals := locals) (result := result) R_code.out)
          obtain ⟨t, ht⟩ : ∃ t : Core, t = ⟨name, params, locals, result, code⟩ := ⟨_, rfl⟩
          have HTN : Hid (t.name = name) := by show _ = _; rw [ht]
          rw [← ht] at RC HX HMS
          clear ht
          go_wp2_with fail
          obtain ⟨w1, hw1⟩ : ∃ W, W = ws.alloc (.cells #[.string name, .int .i64 params, .int .i64 locals, .bool result, .slice codeA codeN codeC] 51) := ⟨_, rfl⟩
          rw [← hw1]
          have bE : Blk w1 ws.heap.size 51 #[.string name, .int .i64 params, .int .i64 locals, .bool result, .slice codeA codeN codeC] := by rw [hw1]; exact Blk.new ws _ _
          have hb1 : Below ws.heap.size ws w1 := by rw [hw1]; exact (Below.refl _ _).alloc (Nat.le_refl _) _
          clear hw1
          have hbr1 := hbs.trans (hb1.mono hbs.size)
          have hB1 := hBs.trans (hb1.mono hBs.size)
          refine (implCore_any t (B := B) (Nat.le_trans hB hB1.size) (RC.out.below (hb1.mono (Nat.le_trans hB hBs.size)))).mono ?_
          rintro e w2 ⟨rfl, hb2⟩
          have bE2 := bE.step hb2
          have hb12 := hb1.trans (hb2.mono hb1.size)
          have hbr2 := hbs.trans (hb12.mono hbs.size)
          have hB2 := hB1.trans (hb2.mono hB1.size)
          cases hin : coreB t
          · have HF2 : Hid (R = false) := by show _ = _; rw [HF1.out, any_hit HX.out (by simp [hin])]; rfl
            go_wp2_with fail
            go_ret
            exact ⟨ret_bool HF2.out.symm, hB2⟩
          · have HQ := Lib.hid (pre_next HP.out HX.out (by simp [hin]))
            have e_0 : w2.cell? ⟨ws.heap.size, 0, none⟩ = some (.string name) := bE2.cell 0
            have hown1 := owns_step hown hb12
            have hs1 := hown1.alloc (.cells #[Value.string name] 9)
            have hr1 := (owns_step hrow1 hb12).alloc (.cells #[Value.string name] 9)
            have hc1 := cell_one_new w2 (Value.string name) 9
            have hbr3 : Below w0.heap.size w0 (w2.alloc (.cells #[Value.string name] 9)) := hbr2.alloc hbr2.size _
            clear hown hown1 HP hrow1
            go_wp2_with (at_builtin; refine wpList_append_own_at _ rfl _ _ 47 rfl w0.heap.size 9 i0 (.string { data := #[] }) 1 16 Tryz.underlying47 hi hz0 hz1 hz2 rfl (by decide) _ _ _ rfl hs1 ⟨w2.heap.size, 0, none⟩ 1 1 [_] rfl rfl hc1 (one_str _) (by simp only [maxLen]; omega) (by omega) hbr3.size ?_; intro v' w3 hown' hgrow _ hat2)
            have hbr4 := hbr3.grown hgrow hbr3.size (fun g hg => (hs1.lt g hg).1)
            have hr3 := owns_far hr1 hgrow (fun g hg e => HNE.out g hg e)
            have HNE2 : Hid (∀ g, v1.ownBlock = some g → v'.ownBlock ≠ some g) := fun g hg e => by
              rcases hat2 with h | h
              · exact HNE.out g hg (h ▸ e)
              · rw [h] at e
                have := Option.some.inj e
                have := (hr1.lt g hg).2
                omega
            clear hat2 hs1 hr1 hc1
            go_roundw
            case rel => exact ⟨k + 1, by omega, by go_num, HQ, by rw [HMS.out, HTN.out, strs_append]; exact hown', HNE2, hr3, hbr4⟩
            case measure => simp [intOf]; omega
        · have hkn : k = n' := by omega
          have HF2 : Hid (R = (namesB (imports.map Imp.name) && namesB (cores.map Core.name))) := by show _ = _; rw [HF1.out, any_none (n := k) (by have := HN'.out; omega) HP.out]; rfl
          have HT2 : Hid (cores.take k = cores) := List.take_of_length_le (by have := HN'.out; omega)
          rw [HT2.out] at hown
          clear HF1 HP
          subst hkn
          have LI := Lib.hid (rep_strs hrow1)
          have LC := Lib.hid (rep_strs hown)
          have SI : Hid (∀ s ∈ imports.map Imp.name, s.size ≤ maxLen) := fun s hs => by
            obtain ⟨x, hx, rfl⟩ := List.mem_map.1 hs
            exact impWf (HWI.out x hx)
          have SC : Hid (∀ s ∈ cores.map Core.name, s.size ≤ maxLen) := fun s hs => by
            obtain ⟨x, hx, rfl⟩ := List.mem_map.1 hs
            exact coreWf (HWC.out x hx)
          have hl1 : (imports.map Imp.name).length ≤ 1048576 := by rw [List.length_map]; have := HN.out; omega
          have hl2 : (cores.map Core.name).length ≤ 1048576 := by rw [List.length_map]; have := HN'.out; omega
          clear hown hrow1
          go_wp2_with fail
          refine (wordsOk_any (Nat.le_refl _) hl1 SI.out LI.out).mono ?_
          rintro e w3 ⟨rfl, hb3⟩
          cases hi1 : namesB (imports.map Imp.name)
          · have HF3 : Hid (R = false) := by show _ = _; rw [HF2.out, hi1]; rfl
            go_wp2_with fail
            go_ret
            exact ⟨ret_bool HF3.out.symm, hBs.trans (hb3.mono hBs.size)⟩
          · have HF3 : Hid (R = namesB (cores.map Core.name)) := by show _ = _; rw [HF2.out, hi1]; rfl
            clear hi1
            go_wp2_with fail
            refine (wordsOk_any hb3.size hl2 SC.out (LC.out.below hb3)).mono ?_
            rintro e w4 ⟨rfl, hb4⟩
            go_wp2_with fail
            go_ret
            exact ⟨ret_bool HF3.out.symm, (hBs.trans (hb3.mono hBs.size)).trans (hb4.mono (Nat.le_trans hBs.size hb3.size))⟩
end Go.Proofs.YtflpfcnpjadccaaGreatDoor

