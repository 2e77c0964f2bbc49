/-
  spec.l03Labels and impl.labelsOk return the same bool.
-/
import Derived.Test.YtbafphecjijdmaaGreatDoorTyName
import Derived.Test.YtbafphecjijdmaaGreatDoorTyHas
import Derived.Test.YtbafphecjijdmaaGreatDoorSorted
namespace Go.Proofs.YtbafphecjijdmaaGreatDoor
open Go.RowKit
set_option linter.unusedVariables false
set_option linter.unusedSimpArgs false
set_option linter.unnecessarySimpa false

theorem nodup_take_succ {α : Type} {ls : List α} {i : Nat} {x : α} (hx : ls[i]? = some x) (h : (ls.take i).Nodup) (hne : ∀ (j : Nat) (y : α), j < i → ls[j]? = some y → y ≠ x) : (ls.take (i + 1)).Nodup := by
  rw [List.take_add_one, hx]
  refine List.nodup_append.2 ⟨h, by simp, ?_⟩
  intro a ha b hb e
  simp at hb
  obtain ⟨j, hj, rfl⟩ := List.getElem_of_mem ha
  rw [List.length_take] at hj
  rw [List.getElem_take] at e
  exact hne j _ (by omega) (List.getElem?_eq_getElem (by omega)) (e.trans hb)
theorem not_nodup {α : Type} {ls : List α} {i j : Nat} {x : α} (hij : j < i) (hx : ls[i]? = some x) (hy : ls[j]? = some x) : ¬ ls.Nodup := by
  intro hn
  obtain ⟨hi, rfl⟩ := List.getElem?_eq_some_iff.1 hx
  obtain ⟨hj, e⟩ := List.getElem?_eq_some_iff.1 hy
  exact List.pairwise_iff_getElem.1 (List.nodup_iff_pairwise_ne.1 hn) j i hj hi hij e

set_option maxHeartbeats 1600000 in
theorem specLabels_any {B : Nat} {v : Value} {ls : List ByteArray} {w : World} (hB : B ≤ w.heap.size) (hs : ∀ s ∈ ls, s.size ≤ maxLen) (h : Rep w B (.row 1 (ls.flatMap strC)) v) :
    Calls Tryz.prog 169 #[v] w fun e w' => e = .returned (.bool (labelsOk ls)) ∧ Below w.heap.size w w' := by
  obtain ⟨A, n, c, rfl, hnl, hm, hat⟩ := rep_row strC_length (by decide) h
  unfold maxLen at hm
  have HN := Lib.hid hnl
  have HS := Lib.hid hs
  have HAT := Lib.hid hat
  clear h hnl hs hat
  by_cases h1 : 1 ≤ n
  case neg =>
    have HF : Hid (labelsOk ls = false) := by show _ = _; rw [labelsOk, inB_lo (by have := HN.out; omega)]; rfl
    go_enter Tryz.func169, Tryz.ntmps169
    go_wp2_with fail
    go_ret
    exact ⟨ret_bool HF.out.symm, Below.refl _ _⟩
  by_cases h2 : n ≤ 16
  case neg =>
    have HF : Hid (labelsOk ls = false) := by show _ = _; rw [labelsOk, inB_hi (by have := HN.out; omega)]; rfl
    go_enter Tryz.func169, Tryz.ntmps169
    go_wp2_with fail
    go_ret
    exact ⟨ret_bool HF.out.symm, Below.refl _ _⟩
  obtain ⟨g, off, rfl, hg, hcell⟩ := HAT.out (by omega)
  have HC := Lib.hid hcell
  clear HAT hcell
  go_enter Tryz.func169, Tryz.ntmps169
  go_wp2_with fail
  go_loopw [3, 4] (fun i k2 wr => ∃ k : Nat, k ≤ n ∧ i = .int .i64 k ∧ Hid (∀ (j : Nat) (t : ByteArray), j < k → ls[j]? = some t → (fun t => !nameOk t) t = false) ∧ Hid ((ls.take k).Nodup) ∧ ∃ q, wr = w.drewN q) (fun i _ _ => n - (intOf i).toNat)
  case atStart => exact ⟨0, Nat.zero_le _, rfl, Lib.hid fun j t h => absurd h (by omega), Lib.hid (by simp), 0, rfl⟩
  case round =>
    obtain ⟨k, hk, rfl, HP, HD, q, rfl⟩ := hrel
    by_cases hlt : k < n
    · obtain ⟨x, hx, hmem⟩ := at_lt HN.out hlt
      have ck : w.cell? ⟨g, off + k, none⟩ = some (.string x) := by
        obtain ⟨u, hu, hr⟩ := HC.out k 0 x _ hx rfl
        rw [hr.of_lit] at hu
        simpa using hu
      have HX := Lib.hid hx
      have hxs := HS.out x hmem
      clear hx hmem
      go_wp2_with fail
      refine (specName_any x hxs _).mono ?_
      rintro e w1 ⟨rfl, rfl⟩
      cases hb : nameOk x
      · have HF : Hid (labelsOk ls = false) := by show _ = _; rw [labelsOk, all_hit HX.out hb]; simp
        go_wp2_with fail
        go_ret
        exact ⟨ret_bool HF.out.symm, below_drewN (Below.refl _ _) _⟩
      have HB := Lib.hid hb
      clear hb
      go_wp2_with fail
      go_loopw [4] (fun i2 wr => ∃ m : Nat, m ≤ k ∧ i2 = .int .i64 m ∧ Hid (∀ (j : Nat) (y : ByteArray), j < m → ls[j]? = some y → y ≠ x) ∧ ∃ q, wr = w.drewN q) (fun i2 _ => k - (intOf i2).toNat)
      case atStart => exact ⟨0, Nat.zero_le _, rfl, Lib.hid fun j t h => absurd h (by omega), q, rfl⟩
      case round =>
        obtain ⟨m, hmk, rfl, HM, q2, rfl⟩ := hrel
        clear ck
        by_cases hlt2 : m < k
        · obtain ⟨y, hy, _⟩ := at_lt HN.out (show m < n by omega)
          have ck : w.cell? ⟨g, off + k, none⟩ = some (.string x) := by
            obtain ⟨u, hu, hr⟩ := HC.out k 0 x _ HX.out rfl
            rw [hr.of_lit] at hu
            simpa using hu
          have cm : w.cell? ⟨g, off + m, none⟩ = some (.string y) := by
            obtain ⟨u, hu, hr⟩ := HC.out m 0 y _ hy rfl
            rw [hr.of_lit] at hu
            simpa using hu
          have hlt3 : (m : Int) < (n : Int) := by omega
          have hlt4 : (k : Int) < (n : Int) := by omega
          have HY := Lib.hid hy
          clear hy
          by_cases e : y = x
          · have HF : Hid (labelsOk ls = false) := by
              show _ = _
              rw [labelsOk, decide_eq_false (not_nodup hlt2 HX.out (by rw [HY.out, e]))]
              simp
            subst e
            go_wp2_with fail
            go_quiet (fail)
            go_wp2_with fail
            go_ret
            exact ⟨ret_bool HF.out.symm, below_drewN (below_drewN (Below.refl _ _) _) _⟩
          · have hne := str_ne2 e
            have HE : Hid (∀ (j : Nat) (z : ByteArray), j < m + 1 → ls[j]? = some z → z ≠ x) := by
              intro j z hj hz
              by_cases e2 : j = m
              · subst e2
                rw [HY.out] at hz
                injection hz with hz
                rw [← hz]
                exact e
              · exact HM.out j z (by omega) hz
            clear e
            go_wp2_with fail
            go_quiet (fail)
            go_wp2_with fail
            go_roundw
            case rel => exact ⟨m + 1, by omega, by go_num, HE, _, rfl⟩
            case measure => simp [intOf]; omega
        · have hmk2 : m = k := by omega
          subst hmk2
          go_wp2_with fail
          go_roundw
          case rel => exact ⟨m + 1, by omega, by go_num, Lib.hid (pre_next HP.out HX.out (by rw [HB.out]; rfl)), Lib.hid (nodup_take_succ HX.out HD.out HM.out), _, rfl⟩
          case measure => simp [intOf]; omega
    · have hkn : k = n := by omega
      subst hkn
      have HF : Hid (labelsOk ls = true) := by
        show _ = _
        have h3 : ls.take k = ls := List.take_of_length_le (by have := HN.out; omega)
        have h4 := HD.out
        rw [h3] at h4
        rw [labelsOk, inB_yes (by have := HN.out; omega) (by have := HN.out; omega), all_of (n := k) (by have := HN.out; omega) HP.out, decide_eq_true h4]
        rfl
      go_wp2_with fail
      go_ret
      exact ⟨ret_bool HF.out.symm, below_drewN (Below.refl _ _) _⟩

theorem labels1_any (s : ByteArray) (hs : s.size ≤ maxLen) (w : World) :
    Calls Tryz.prog 159 #[.string s] w fun e w' => e = .returned (.bool (!nameOk s)) ∧ Below w.heap.size w w' := by
  have HI := Lib.hid (implName_any s hs w)
  clear hs
  go_enter Tryz.func159, Tryz.ntmps159
  go_wp2_with fail
  refine HI.out.mono ?_
  rintro e w1 ⟨rfl, hb⟩
  go_wp2_with fail
  go_ret
  exact ⟨rfl, hb⟩
theorem labels1_enter (a : Array Value) (W : World) : Sem.run Tryz.prog (callFunc 159 a) W = .ok (.enter 159 a) W := by kernel_rfl

set_option maxHeartbeats 1600000 in
theorem implLabels_any {B : Nat} {v : Value} {ls : List ByteArray} {w : World} (hB : B ≤ w.heap.size) (hs : ∀ s ∈ ls, s.size ≤ maxLen) (h : Rep w B (.row 1 (ls.flatMap strC)) v) :
    Calls Tryz.prog 140 #[v] w fun e w' => e = .returned (.bool (labelsOk ls)) ∧ Below w.heap.size w w' := by
  obtain ⟨A, n, c, rfl⟩ := h.form
  have HR := Lib.hid h
  have HS := Lib.hid hs
  clear h hs
  obtain ⟨L, hL⟩ : ∃ L : Nat, L = ls.length := ⟨_, rfl⟩
  have HL := Lib.hid hL
  clear hL
  cases hi : inB (L : Int) 1 16
  case false =>
    have HF : Hid (labelsOk ls = false) := by show _ = _; rw [labelsOk, ← HL.out, hi]; rfl
    go_enter Tryz.func140, Tryz.ntmps140
    go_wp2_with fail
    refine (sizeS_any HR.out).mono ?_
    rintro e w1 ⟨rfl, rfl⟩
    rw [← HL.out]
    go_wp2_with fail
    refine (within_any _ _ _ _).mono ?_
    rintro e w1 ⟨rfl, rfl⟩
    rw [hi]
    go_wp2_with fail
    go_ret
    exact ⟨ret_bool HF.out.symm, Below.refl _ _⟩
  have HI := Lib.hid hi
  have hl := (inB_iff.1 hi).2
  clear hi
  by_cases hd : ls.Nodup
  case neg =>
    have HF : Hid (labelsOk ls = false) := by show _ = _; rw [labelsOk, decide_eq_false hd]; simp
    have HD := Lib.hid (decide_eq_false hd)
    clear hd
    go_enter Tryz.func140, Tryz.ntmps140
    go_wp2_with fail
    refine (sizeS_any HR.out).mono ?_
    rintro e w1 ⟨rfl, rfl⟩
    rw [← HL.out]
    go_wp2_with fail
    refine (within_any _ _ _ _).mono ?_
    rintro e w1 ⟨rfl, rfl⟩
    rw [HI.out]
    go_wp2_with fail
    refine (distinct_any hB (by have := HL.out; omega) HR.out).mono ?_
    rintro e w1 ⟨rfl, hb1⟩
    rw [HD.out]
    go_wp2_with fail
    go_ret
    exact ⟨ret_bool HF.out.symm, hb1⟩
  have HD := Lib.hid (decide_eq_true hd)
  clear hd
  have HF : Hid (labelsOk ls = !(ls.any fun s => !nameOk s)) := by
    show _ = _
    rw [labelsOk, ← HL.out, HI.out, HD.out, List.not_any_eq_all_not]
    simp
  go_enter Tryz.func140, Tryz.ntmps140
  go_wp2_with fail
  refine (sizeS_any HR.out).mono ?_
  rintro e w1 ⟨rfl, rfl⟩
  rw [← HL.out]
  go_wp2_with fail
  refine (within_any _ _ _ _).mono ?_
  rintro e w1 ⟨rfl, rfl⟩
  rw [HI.out]
  go_wp2_with fail
  refine (distinct_any hB (by have := HL.out; omega) HR.out).mono ?_
  rintro e w1 ⟨rfl, hb1⟩
  rw [HD.out]
  go_wp2_with fail
  refine (hasStringS_any 159 #[] (fun s => !nameOk s) (B := B) (by have := hb1.size; omega) (HR.out.below (hb1.mono hB)) labels1_enter (fun s hm W _ => labels1_any s (HS.out s hm) W)).mono ?_
  rintro e w2 ⟨rfl, hb2⟩
  obtain ⟨r, hr⟩ : ∃ r, r = ls.any fun s => !nameOk s := ⟨_, rfl⟩
  have HG := Lib.hid hr
  rw [← hr]
  clear hr
  go_wp2_with fail
  go_ret
  exact ⟨ret_bool (by rw [HF.out, ← HG.out]), hb1.trans (hb2.mono hb1.size)⟩
end Go.Proofs.YtbafphecjijdmaaGreatDoor

