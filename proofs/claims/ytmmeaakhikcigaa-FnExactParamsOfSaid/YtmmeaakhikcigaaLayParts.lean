/-
  Places of parts: spec.PartsAt, impl.PartsAt.
-/
import Derived.Test.YtmmeaakhikcigaaLayOk
namespace Go.Proofs.Ytmmeaakhikcigaa
open Go.RowKit
set_option linter.unusedVariables false
set_option linter.unusedSimpArgs false
set_option linter.unnecessarySimpa false

def partsRes (ts : List Ty) : List Int := if typesOkB ts then natI (offsL 0 ts) else []
theorem szL_intC : ∀ xs : List Int, PD.szL (xs.flatMap intC) = 0
  | [] => rfl
  | x :: xs => by rw [List.flatMap_cons, szL_append, szL_intC xs]; simp [intC, PD.szL, PD.sz]
theorem ints_cnt {xs : List Int} {m : Nat} (h : xs.length ≤ m) : (PD.row 1 (xs.flatMap intC)).cnt ≤ 16 * m := by
  have h1 := PD.cnt_row_le 1 (xs.flatMap intC) (row_fit (ts := xs) intC_length (by decide) (by decide) (fun t _ => intC_fit t))
  rw [sz_row intC_length (by decide), szL_intC] at h1
  omega
theorem partsRes_cnt (ts : List Ty) : (PD.row 1 ((partsRes ts).flatMap intC)).cnt ≤ 1099511627775 := by
  have h : (partsRes ts).length ≤ 24 := by
    rw [partsRes]
    split
    · rename_i h
      rw [typesOkB, Bool.and_eq_true, decide_eq_true_iff] at h
      rw [natI, List.length_map, offsL_length]
      exact h.1
    · simp
  have := ints_cnt h
  omega
theorem lv_none {w : World} {lo sz : Nat} (h : lo ≤ w.heap.size) : Lv w lo w.heap.size (.row sz []) (.slice none 0 0) := ⟨[], by rw [Hold]; exact ⟨none, 0, 0, rfl, by simp, Nat.le_refl _, by decide, .inl ⟨rfl, rfl⟩⟩, In.nil _ _, Nat.le_refl _⟩
set_option maxHeartbeats 1600000 in
theorem specPartsAt_ok (ts : List Ty) (hwf : (PD.row 4 (ts.flatMap Ty.pd)).wf) (hsz : (PD.row 4 (ts.flatMap Ty.pd)).sz ≤ 1048576) : FnRR 56 (.row 4 (ts.flatMap Ty.pd)) (.row 1 ((partsRes ts).flatMap intC)) := by
  intro B v w hB h
  obtain ⟨A, n, c, rfl⟩ := h.form
  have HR := Lib.hid h
  have HG := Lib.hid (fun h => good_of hwf hsz h)
  rw [PD.wf] at hwf
  have HW := Lib.hid (wfL_flatMap.1 hwf)
  have HP : Hid (∀ t ∈ ts, t.parts ≤ 4194304) := fun t ht => by have := parts_mem ht; have := partsL_le ts; omega
  clear h hwf hsz
  go_enter Try.func56, Try.ntmps56
  go_wp2_with fail
  refine (specTypesOk_any hB HW.out HR.out).mono ?_
  rintro e w1 ⟨rfl, hb1⟩
  cases hok : typesOkB ts
  · have HF : Hid (partsRes ts = []) := by show _ = _; rw [partsRes, hok]; rfl
    clear hok
    go_wp2_with fail
    go_ret
    rw [HF.out]
    exact ⟨_, rfl, lv_ints (xs := []) (World.ownsRow_made w1 #[] 0 hb1.size (by simp) (by simp)), hb1.alloc hb1.size _⟩
  have HF : Hid (partsRes ts = natI (offsL 0 ts)) := by show _ = _; rw [partsRes, hok]; rfl
  have HG1 := Lib.hid (HG.out hok)
  clear hok HG
  go_wp2_with fail
  refine (specPartsAt_any (fun t _ => specLay_all t) HG1.out (Nat.le_trans hB hb1.size) (HR.out.below (hb1.mono hB))).mono ?_
  rintro e w2 ⟨u, rfl, hu, hb2⟩
  have HU := Lib.hid hu
  clear hu
  go_wp2_with fail
  go_ret
  rw [HF.out]
  exact ⟨_, rfl, HU.out.more hb1.size (Nat.le_refl _) (Nat.le_refl _), hb1.trans (hb2.mono hb1.size)⟩
set_option maxHeartbeats 1600000 in
theorem implPartsAt_ok (ts : List Ty) (hwf : (PD.row 4 (ts.flatMap Ty.pd)).wf) (hsz : (PD.row 4 (ts.flatMap Ty.pd)).sz ≤ 1048576) : FnRR 57 (.row 4 (ts.flatMap Ty.pd)) (.row 1 ((partsRes ts).flatMap intC)) := by
  intro B v w hB h
  obtain ⟨A, n, c, rfl⟩ := h.form
  have HR := Lib.hid h
  have HG := Lib.hid (fun h => good_of hwf hsz h)
  rw [PD.wf] at hwf
  have HW := Lib.hid (wfL_flatMap.1 hwf)
  have HP : Hid (∀ t ∈ ts, t.parts ≤ 4194304) := fun t ht => by have := parts_mem ht; have := partsL_le ts; omega
  clear h hwf hsz
  go_enter Try.func57, Try.ntmps57
  go_wp2_with fail
  refine (implTypesOk_any hB HW.out HP.out HR.out).mono ?_
  rintro e w1 ⟨rfl, hb1⟩
  cases hok : typesOkB ts
  · have HF : Hid (partsRes ts = []) := by show _ = _; rw [partsRes, hok]; rfl
    clear hok
    go_wp2_with fail
    go_ret
    rw [HF.out]
    exact ⟨_, rfl, lv_none hb1.size, hb1⟩
  have HF : Hid (partsRes ts = natI (offsL 0 ts)) := by show _ = _; rw [partsRes, hok]; rfl
  have HG1 := Lib.hid (HG.out hok)
  clear hok HG
  go_wp2_with fail
  refine (partsAt_any (fun t _ => size_all t) HG1.out (Nat.le_trans hB hb1.size) (HR.out.below (hb1.mono hB))).mono ?_
  rintro e w2 ⟨u, rfl, hu, hb2⟩
  have HU := Lib.hid hu
  clear hu
  go_wp2_with fail
  go_ret
  rw [HF.out]
  exact ⟨_, rfl, HU.out.more hb1.size (Nat.le_refl _) (Nat.le_refl _), hb1.trans (hb2.mono hb1.size)⟩
end Go.Proofs.Ytmmeaakhikcigaa

