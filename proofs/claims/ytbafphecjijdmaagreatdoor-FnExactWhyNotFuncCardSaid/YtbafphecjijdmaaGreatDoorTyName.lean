/-
  spec.l03Name and impl.NameOk return the same bool.
-/
import Derived.Test.YtbafphecjijdmaaGreatDoorTyMath
import Derived.Test.YtbafphecjijdmaaGreatDoorSmall
namespace Go.Proofs.YtbafphecjijdmaaGreatDoor
open Go.RowKit
set_option linter.unusedVariables false
set_option linter.unusedSimpArgs false
set_option linter.unnecessarySimpa false

set_option maxHeartbeats 800000 in
theorem specName_any (s : ByteArray) (hs : s.size ≤ maxLen) (w : World) :
    Calls Tryz.prog 89 #[.string s] w fun e w' => e = .returned (.bool (nameOk s)) ∧ w = w' := by
  unfold maxLen at hs
  by_cases h1 : 1 ≤ s.size
  case neg =>
    have HN : Hid (nameOk s = false) := by show _ = _; simp only [nameOk, inB_lo (show ((s.size : Nat) : Int) < 1 by omega), Bool.and_false, Bool.false_and]
    go_enter Tryz.func89, Tryz.ntmps89
    go_wp2_with fail
    go_ret
    exact ⟨ret_bool HN.out.symm, rfl⟩
  by_cases h2 : s.size ≤ 12
  case neg =>
    have HN : Hid (nameOk s = false) := by show _ = _; simp only [nameOk, inB_hi (show (12 : Int) < ((s.size : Nat) : Int) by omega), Bool.and_false, Bool.false_and]
    go_enter Tryz.func89, Tryz.ntmps89
    go_wp2_with fail
    go_ret
    exact ⟨ret_bool HN.out.symm, rfl⟩
  have h0 : 0 < s.size := by omega
  have hl : s.size - 1 < s.size := by omega
  by_cases h3 : 97 ≤ (s[0].toNat : Int) ∧ (s[0].toNat : Int) ≤ 122
  case neg =>
    have HN : Hid (nameOk s = false) := nm_none h0 (by
      rw [nmAt, byte_get h0]
      simp only [Nat.lt_irrefl, decide_false, Bool.false_and, Bool.or_false]
      rw [inB_no]
      omega)
    by_cases h4 : (s[0].toNat : Int) < 97
    · go_enter Tryz.func89, Tryz.ntmps89
      go_wp2_with fail
      go_ret
      exact ⟨ret_bool HN.out.symm, rfl⟩
    · have h5 : 122 < (s[0].toNat : Int) := by omega
      go_enter Tryz.func89, Tryz.ntmps89
      go_wp2_with fail
      go_ret
      exact ⟨ret_bool HN.out.symm, rfl⟩
  obtain ⟨h3a, h3b⟩ := h3
  cases h4 : ((s[s.size - 1].toNat : Int) == 45)
  case true =>
    have HN : Hid (nameOk s = false) := by
      show _ = _
      have e : s[s.size - 1] = 45 := (byte_eq45 _).2 (by have := beq_iff_eq.1 h4; omega)
      rw [nameOk, byte_get hl, e]
      simp
    go_enter Tryz.func89, Tryz.ntmps89
    go_wp2_with fail
    go_ret
    exact ⟨ret_bool HN.out.symm, rfl⟩
  have HL : Hid ((s.data.toList[s.size - 1]? == some 45) = false) := by
    show _ = _
    rw [byte_get hl]
    have e : s[s.size - 1] ≠ 45 := fun e => by rw [(byte_eq45 _).1 e] at h4; simp at h4
    simp [e]
  have H0 := Lib.hid (And.intro h3a h3b)
  go_enter Tryz.func89, Tryz.ntmps89
  go_wp2_with fail
  clear h4 hl h3a h3b
  go_loop [3] (fun i => ∃ k : Nat, k ≤ s.size ∧ i = .int .i64 k ∧ Hid (∀ j, j < k → nmAt s j = true)) (fun i => s.size - (intOf i).toNat)
  case atStart => exact ⟨0, Nat.zero_le _, rfl, Lib.hid fun j h => absurd h (by omega)⟩
  case round =>
    obtain ⟨k, hk, rfl, HP⟩ := hrel
    by_cases hlt : k < s.size
    · by_cases ha : 97 ≤ (s[k].toNat : Int) ∧ (s[k].toNat : Int) ≤ 122
      · obtain ⟨ha1, ha2⟩ := ha
        have HB := Lib.hid (nm_next HP.out (show nmAt s k = true by rw [nmAt, byte_get hlt]; simp [inB_yes ha1 ha2]))
        have e45 : ((s[k].toNat : Int) == 45) = false := by simp; omega
        go_wp2_with fail
        go_round
        case rel => exact ⟨k + 1, by omega, by go_num, HB⟩
        case measure => simp [intOf]; omega
      have hk0 : 0 < k := by
        rcases Nat.eq_zero_or_pos k with e | e
        · subst e
          exact absurd H0.out ha
        · exact e
      by_cases hd : 48 ≤ (s[k].toNat : Int) ∧ (s[k].toNat : Int) ≤ 57
      · obtain ⟨hd1, hd2⟩ := hd
        have HB := Lib.hid (nm_next HP.out (show nmAt s k = true by rw [nmAt, byte_get hlt]; simp [inB_yes hd1 hd2, hk0]))
        have e45 : ((s[k].toNat : Int) == 45) = false := by simp; omega
        have ha' : (s[k].toNat : Int) < 97 := by omega
        clear ha
        go_wp2_with fail
        go_round
        case rel => exact ⟨k + 1, by omega, by go_num, HB⟩
        case measure => simp [intOf]; omega
      cases he : ((s[k].toNat : Int) == 45)
      · have hne : ((s[k].toNat : Int) != 45) = true := by rw [bne, he]; rfl
        have HB : Hid (nameOk s = false) := nm_none hlt (by
          rw [nmAt, byte_get hlt]
          have h1 : inB (s[k].toNat : Int) 97 122 = false := inB_no.2 (by omega)
          have h2 : inB (s[k].toNat : Int) 48 57 = false := inB_no.2 (by omega)
          have h3 : (s[k].toNat == 45) = false := by simp only [beq_eq_false_iff_ne, ne_eq] at he ⊢; omega
          simp [h1, h2, h3])
        by_cases hx : (s[k].toNat : Int) < 48
        · have hx' : (s[k].toNat : Int) < 97 := by omega
          clear ha hd
          go_wp2_with fail
          go_ret
          exact ⟨ret_bool HB.out.symm, rfl⟩
        by_cases hy : (s[k].toNat : Int) < 97
        · have hx' : (57 : Int) < (s[k].toNat : Int) := by omega
          clear ha hd
          go_wp2_with fail
          go_ret
          exact ⟨ret_bool HB.out.symm, rfl⟩
        · have hx' : (122 : Int) < (s[k].toNat : Int) := by omega
          clear ha hd
          go_wp2_with fail
          go_ret
          exact ⟨ret_bool HB.out.symm, rfl⟩
      · have hne : ((s[k].toNat : Int) != 45) = false := by rw [bne, he]; rfl
        have hx' : (s[k].toNat : Int) < 48 := by have := beq_iff_eq.1 he; omega
        have hl : k - 1 < s.size := by omega
        have h45 : (s[k].toNat == 45) = true := by have := beq_iff_eq.1 he; simp; omega
        cases hp : ((s[k - 1].toNat : Int) == 45)
        · have HB := Lib.hid (nm_next HP.out (show nmAt s k = true by
            rw [nmAt, byte_get hlt, byte_get hl]
            have e : s[k - 1] ≠ 45 := fun e => by rw [(byte_eq45 _).1 e] at hp; simp at hp
            simp [hk0, h45, e]))
          clear ha hd h45
          go_wp2_with fail
          go_round
          case rel => exact ⟨k + 1, by omega, by go_num, HB⟩
          case measure => simp [intOf]; omega
        · have HB : Hid (nameOk s = false) := nm_none hlt (by
            rw [nmAt, byte_get hlt, byte_get hl]
            have e : s[k - 1] = 45 := (byte_eq45 _).2 (by have := beq_iff_eq.1 hp; omega)
            have h1 : inB (s[k].toNat : Int) 97 122 = false := inB_no.2 (by omega)
            have h2 : inB (s[k].toNat : Int) 48 57 = false := inB_no.2 (by omega)
            simp [e, h1, h2])
          clear ha hd h45
          go_wp2_with fail
          go_ret
          exact ⟨ret_bool HB.out.symm, rfl⟩
    · have hkn : k = s.size := by omega
      subst hkn
      have HB : Hid (nameOk s = true) := by
        show _ = _
        rw [nm_all HP.out, HL.out, inB_yes (by omega) (by omega)]
        rfl
      go_wp2_with fail
      go_ret
      exact ⟨ret_bool HB.out.symm, rfl⟩

set_option maxHeartbeats 1600000 in
theorem implName_any (s : ByteArray) (hs : s.size ≤ maxLen) (w : World) :
    Calls Tryz.prog 60 #[.string s] w fun e w' => e = .returned (.bool (nameOk s)) ∧ Below w.heap.size w w' := by
  unfold maxLen at hs
  go_enter Tryz.func60, Tryz.ntmps60
  go_wp2_with fail
  go_loopw [8] (fun i wr => ∃ k : Nat, k ≤ s.size ∧ i = .int .i64 k ∧ Hid (∀ j, j < k → nmAt s j = true) ∧ ∃ q, wr = w.drewN q) (fun i _ => s.size - (intOf i).toNat)
  case atStart => exact ⟨0, Nat.zero_le _, rfl, Lib.hid fun j h => absurd h (by omega), 0, rfl⟩
  case round =>
    obtain ⟨k, hk, rfl, HP, q, rfl⟩ := hrel
    by_cases hlt : k < s.size
    · by_cases ha : 97 ≤ (s[k].toNat : Int) ∧ (s[k].toNat : Int) ≤ 122
      · obtain ⟨ha1, ha2⟩ := ha
        have HB := Lib.hid (nm_next HP.out (show nmAt s k = true by rw [nmAt, byte_get hlt]; simp [inB_yes ha1 ha2]))
        have d0 : decide ((97 : Int) ≤ (s[k].toNat : Int)) = true := by simp; omega
        have d1 : decide ((s[k].toNat : Int) ≤ 122) = true := by simp; omega
        have d2 : decide ((48 : Int) ≤ (s[k].toNat : Int)) = true := by simp; omega
        have d3 : decide ((s[k].toNat : Int) ≤ 57) = false := by simp; omega
        go_wp2_with fail
        go_quiet (fail)
        clear d0 d2
        go_wp2_with fail
        go_roundw
        case rel => exact ⟨k + 1, by omega, by go_num, HB, _, rfl⟩
        case measure => simp [intOf]; omega
      by_cases hd : 48 ≤ (s[k].toNat : Int) ∧ (s[k].toNat : Int) ≤ 57
      · obtain ⟨hd1, hd2⟩ := hd
        clear ha
        rcases Nat.eq_zero_or_pos k with e0 | e0
        · subst e0
          have HB : Hid (nameOk s = false) := nm_none hlt (by
            rw [nmAt, byte_get hlt]
            have h1 : inB (s[0].toNat : Int) 97 122 = false := inB_no.2 (by omega)
            simp [h1])
          have d0 : decide ((97 : Int) ≤ (s[0].toNat : Int)) = false := by simp; omega
          have d1 : decide ((s[0].toNat : Int) ≤ 122) = true := by simp; omega
          have d2 : decide ((48 : Int) ≤ (s[0].toNat : Int)) = true := by simp; omega
          have d3 : decide ((s[0].toNat : Int) ≤ 57) = true := by simp; omega
          go_wp2_with fail
          go_quiet (fail)
          clear d0 d2
          go_wp2_with fail
          all_goals go_ret
          all_goals exact ⟨ret_bool HB.out.symm, below_drewN (Below.refl _ _) _⟩
        · have HB := Lib.hid (nm_next HP.out (show nmAt s k = true by rw [nmAt, byte_get hlt]; simp [inB_yes hd1 hd2, e0]))
          have k0 : ((k : Int) == 0) = false := by simp; omega
          have d0 : decide ((97 : Int) ≤ (s[k].toNat : Int)) = false := by simp; omega
          have d1 : decide ((s[k].toNat : Int) ≤ 122) = true := by simp; omega
          have d2 : decide ((48 : Int) ≤ (s[k].toNat : Int)) = true := by simp; omega
          have d3 : decide ((s[k].toNat : Int) ≤ 57) = true := by simp; omega
          go_wp2_with fail
          go_quiet (fail)
          clear d0 d2
          go_wp2_with fail
          go_roundw
          case rel => exact ⟨k + 1, by omega, by go_num, HB, _, rfl⟩
          case measure => simp [intOf]; omega
      cases he : ((s[k].toNat : Int) == 45)
      · have hne : ((s[k].toNat : Int) != 45) = true := by rw [bne, he]; rfl
        have HB : Hid (nameOk s = false) := nm_none hlt (by
          rw [nmAt, byte_get hlt]
          have h1 : inB (s[k].toNat : Int) 97 122 = false := inB_no.2 (by omega)
          have h2 : inB (s[k].toNat : Int) 48 57 = false := inB_no.2 (by omega)
          have h3 : (s[k].toNat == 45) = false := by simp only [beq_eq_false_iff_ne, ne_eq] at he ⊢; omega
          simp [h1, h2, h3])
        by_cases hx : (s[k].toNat : Int) < 48
        · clear ha hd
          have d0 : decide ((97 : Int) ≤ (s[k].toNat : Int)) = false := by simp; omega
          have d1 : decide ((s[k].toNat : Int) ≤ 122) = true := by simp; omega
          have d2 : decide ((48 : Int) ≤ (s[k].toNat : Int)) = false := by simp; omega
          have d3 : decide ((s[k].toNat : Int) ≤ 57) = true := by simp; omega
          go_wp2_with fail
          go_quiet (fail)
          clear d0 d2
          go_wp2_with fail
          all_goals go_ret
          all_goals exact ⟨ret_bool HB.out.symm, below_drewN (Below.refl _ _) _⟩
        by_cases hy : (s[k].toNat : Int) < 97
        · have hy2 : 57 < (s[k].toNat : Int) := by omega
          clear ha hd
          have d0 : decide ((97 : Int) ≤ (s[k].toNat : Int)) = false := by simp; omega
          have d1 : decide ((s[k].toNat : Int) ≤ 122) = true := by simp; omega
          have d2 : decide ((48 : Int) ≤ (s[k].toNat : Int)) = true := by simp; omega
          have d3 : decide ((s[k].toNat : Int) ≤ 57) = false := by simp; omega
          go_wp2_with fail
          go_quiet (fail)
          clear d0 d2
          go_wp2_with fail
          all_goals go_ret
          all_goals exact ⟨ret_bool HB.out.symm, below_drewN (Below.refl _ _) _⟩
        · have hy2 : 122 < (s[k].toNat : Int) := by omega
          clear ha hd
          have d0 : decide ((97 : Int) ≤ (s[k].toNat : Int)) = true := by simp; omega
          have d1 : decide ((s[k].toNat : Int) ≤ 122) = false := by simp; omega
          have d2 : decide ((48 : Int) ≤ (s[k].toNat : Int)) = true := by simp; omega
          have d3 : decide ((s[k].toNat : Int) ≤ 57) = false := by simp; omega
          go_wp2_with fail
          go_quiet (fail)
          clear d0 d2
          go_wp2_with fail
          all_goals go_ret
          all_goals exact ⟨ret_bool HB.out.symm, below_drewN (Below.refl _ _) _⟩
      · have hne : ((s[k].toNat : Int) != 45) = false := by rw [bne, he]; rfl
        have hx' : (s[k].toNat : Int) < 48 := by have := beq_iff_eq.1 he; omega
        have h45 : (s[k].toNat == 45) = true := by have := beq_iff_eq.1 he; simp; omega
        rcases Nat.eq_zero_or_pos k with e0 | e0
        · subst e0
          have HB : Hid (nameOk s = false) := nm_none hlt (by
            rw [nmAt, byte_get hlt]
            have h1 : inB (s[0].toNat : Int) 97 122 = false := inB_no.2 (by omega)
            simp [h1])
          clear ha hd h45
          have d0 : decide ((97 : Int) ≤ (s[0].toNat : Int)) = false := by simp; omega
          have d1 : decide ((s[0].toNat : Int) ≤ 122) = true := by simp; omega
          have d2 : decide ((48 : Int) ≤ (s[0].toNat : Int)) = false := by simp; omega
          have d3 : decide ((s[0].toNat : Int) ≤ 57) = true := by simp; omega
          go_wp2_with fail
          go_quiet (fail)
          clear d0 d2
          go_wp2_with fail
          all_goals go_ret
          all_goals exact ⟨ret_bool HB.out.symm, below_drewN (Below.refl _ _) _⟩
        have k0 : ((k : Int) == 0) = false := by simp; omega
        have hl : k - 1 < s.size := by omega
        cases hp : ((s[k - 1].toNat : Int) == 45)
        · have HB := Lib.hid (nm_next HP.out (show nmAt s k = true by
            rw [nmAt, byte_get hlt, byte_get hl]
            have e : s[k - 1] ≠ 45 := fun e => by rw [(byte_eq45 _).1 e] at hp; simp at hp
            simp [e0, h45, e]))
          clear ha hd h45
          have d0 : decide ((97 : Int) ≤ (s[k].toNat : Int)) = false := by simp; omega
          have d1 : decide ((s[k].toNat : Int) ≤ 122) = true := by simp; omega
          have d2 : decide ((48 : Int) ≤ (s[k].toNat : Int)) = false := by simp; omega
          have d3 : decide ((s[k].toNat : Int) ≤ 57) = true := by simp; omega
          go_wp2_with fail
          go_quiet (fail)
          clear d0 d2
          go_wp2_with fail
          go_roundw
          case rel => exact ⟨k + 1, by omega, by go_num, HB, _, rfl⟩
          case measure => simp [intOf]; omega
        · have HB : Hid (nameOk s = false) := nm_none hlt (by
            rw [nmAt, byte_get hlt, byte_get hl]
            have e : s[k - 1] = 45 := (byte_eq45 _).2 (by have := beq_iff_eq.1 hp; omega)
            have h1 : inB (s[k].toNat : Int) 97 122 = false := inB_no.2 (by omega)
            have h2 : inB (s[k].toNat : Int) 48 57 = false := inB_no.2 (by omega)
            simp [e, h1, h2])
          clear ha hd h45
          have d0 : decide ((97 : Int) ≤ (s[k].toNat : Int)) = false := by simp; omega
          have d1 : decide ((s[k].toNat : Int) ≤ 122) = true := by simp; omega
          have d2 : decide ((48 : Int) ≤ (s[k].toNat : Int)) = false := by simp; omega
          have d3 : decide ((s[k].toNat : Int) ≤ 57) = true := by simp; omega
          go_wp2_with fail
          go_quiet (fail)
          clear d0 d2
          go_wp2_with fail
          all_goals go_ret
          all_goals exact ⟨ret_bool HB.out.symm, below_drewN (Below.refl _ _) _⟩
    · have hkn : k = s.size := by omega
      subst hkn
      have HW := Lib.hid (nm_all HP.out)
      by_cases h1 : 1 ≤ s.size
      · by_cases h2 : s.size ≤ 12
        · have hl : s.size - 1 < s.size := by omega
          cases hp : ((s[s.size - 1].toNat : Int) == 45)
          · have hne : ((s[s.size - 1].toNat : Int) != 45) = true := by rw [bne, hp]; rfl
            have HB : Hid (nameOk s = true) := by
              show _ = _
              have e : s[s.size - 1] ≠ 45 := fun e => by rw [(byte_eq45 _).1 e] at hp; simp at hp
              rw [HW.out, byte_get hl, inB_yes (by omega) (by omega)]
              simp [e]
            go_wp2_with fail
            all_goals go_ret
            all_goals exact ⟨ret_bool HB.out.symm, below_drewN (Below.refl _ _) _⟩
          · have hne : ((s[s.size - 1].toNat : Int) != 45) = false := by rw [bne, hp]; rfl
            have HB : Hid (nameOk s = false) := by
              show _ = _
              have e : s[s.size - 1] = 45 := (byte_eq45 _).2 (by have := beq_iff_eq.1 hp; omega)
              rw [HW.out, byte_get hl, e]
              simp
            go_wp2_with fail
            all_goals go_ret
            all_goals exact ⟨ret_bool HB.out.symm, below_drewN (Below.refl _ _) _⟩
        · have HB : Hid (nameOk s = false) := by
            show _ = _
            rw [HW.out, inB_hi (by omega)]
            rfl
          go_wp2_with fail
          all_goals go_ret
          all_goals exact ⟨ret_bool HB.out.symm, below_drewN (Below.refl _ _) _⟩
      · have HB : Hid (nameOk s = false) := by
          show _ = _
          rw [HW.out, inB_lo (by omega)]
          rfl
        go_wp2_with fail
        all_goals go_ret
        all_goals exact ⟨ret_bool HB.out.symm, below_drewN (Below.refl _ _) _⟩
end Go.Proofs.YtbafphecjijdmaaGreatDoor

