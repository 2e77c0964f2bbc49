/-
  spec.WordOk and impl.WordOk return the same bool.
-/
import Derived.Test.YtflpfcnpjadccaaGreatDoorSmall
import Derived.Test.YtflpfcnpjadccaaGreatDoorIndexByte
namespace Go.Proofs.YtflpfcnpjadccaaGreatDoor
open Go.RowKit
set_option linter.unusedVariables false
set_option linter.unusedSimpArgs false
set_option linter.unnecessarySimpa false

def wordCh (u : UInt8) : Bool := inB u.toNat 97 122 || inB u.toNat 48 57 || u.toNat == 45 || u.toNat == 46 || u.toNat == 47
def wordOk (s : ByteArray) : Bool := s.data.toList.all wordCh && inB s.size 1 40
theorem byte_at {s : ByteArray} {k : Nat} (h : k < s.size) : s.data.toList[k]? = some s[k] := by
  rw [List.getElem?_eq_getElem (by simpa using h)]
  rfl
theorem word_cases (u : UInt8) : (wordCh u = true ∧ (97 ≤ u.toNat ∧ u.toNat ≤ 122 ∨ 48 ≤ u.toNat ∧ u.toNat ≤ 57 ∨ u.toNat = 45 ∨ u.toNat = 46 ∨ u.toNat = 47)) ∨
    (wordCh u = false ∧ (u.toNat < 45 ∨ 57 < u.toNat ∧ u.toNat < 97 ∨ 122 < u.toNat)) := by
  by_cases h : 97 ≤ u.toNat ∧ u.toNat ≤ 122 ∨ 48 ≤ u.toNat ∧ u.toNat ≤ 57 ∨ u.toNat = 45 ∨ u.toNat = 46 ∨ u.toNat = 47
  · refine .inl ⟨?_, h⟩
    simp only [wordCh, inB, Bool.or_eq_true, Bool.and_eq_true, decide_eq_true_eq, beq_iff_eq]
    omega
  · refine .inr ⟨?_, by omega⟩
    rw [Bool.eq_false_iff]
    simp only [wordCh, inB, ne_eq, Bool.or_eq_true, Bool.and_eq_true, decide_eq_true_eq, beq_iff_eq]
    omega
theorem word_next {s : ByteArray} {k : Nat} (h : k < s.size) (hp : ∀ (j : Nat) (u : UInt8), j < k → s.data.toList[j]? = some u → wordCh u = true) (hu : wordCh s[k] = true) :
    ∀ (j : Nat) (u : UInt8), j < k + 1 → s.data.toList[j]? = some u → wordCh u = true := by
  intro j u hj hg
  by_cases e : j = k
  · subst e
    rw [byte_at h] at hg
    injection hg with hg
    rw [← hg]; exact hu
  · exact hp j u (by omega) hg
theorem word_all {s : ByteArray} (hp : ∀ (j : Nat) (u : UInt8), j < s.size → s.data.toList[j]? = some u → wordCh u = true) : wordOk s = inB s.size 1 40 := by
  have : s.data.toList.all wordCh = true := all_true fun j x hx => hp j x (by have := (List.getElem?_eq_some_iff.1 hx).1; simpa using this) hx
  simp [wordOk, this]
theorem word_none {s : ByteArray} {k : Nat} (h : k < s.size) (hu : wordCh s[k] = false) : wordOk s = false := by
  simp [wordOk, all_false (byte_at h) hu]

theorem specWord_any (s : ByteArray) (hs : s.size ≤ maxLen) (w : World) :
    Calls Tryz.prog 37 #[.string s] w fun e w' => e = .returned (.bool (wordOk s)) ∧ w = w' := by
  unfold maxLen at hs
  go_enter Tryz.func37, Tryz.ntmps37
  go_wp2_with fail
  go_loop [3] (fun i => ∃ k : Nat, k ≤ s.size ∧ i = .int .i64 k ∧ ∀ (j : Nat) (u : UInt8), j < k → s.data.toList[j]? = some u → wordCh u = true) (fun i => s.size - (intOf i).toNat)
  case atStart => exact ⟨0, Nat.zero_le _, rfl, fun j x h => absurd h (by omega)⟩
  case round =>
    obtain ⟨k, hk, rfl, hpre⟩ := hrel
    have HP := Lib.hid hpre
    clear hpre
    by_cases hlt : k < s.size
    · have HC := Lib.hid (word_cases s[k])
      rcases HC.out with ⟨hb, h | h | h | h | h⟩ | ⟨hb, h | h | h⟩
      iterate 5
        · have HB := Lib.hid (word_next hlt HP.out hb)
          clear hb HC
          go_wp2_with fail
          go_round
          case rel => exact ⟨k + 1, by omega, by go_num, HB.out⟩
          case measure => simp [intOf]; omega
      iterate 3
        · have HB := Lib.hid (word_none hlt hb)
          have e45 : ((s[k].toNat : Int) == 45) = false := by simp; omega
          have e46 : ((s[k].toNat : Int) == 46) = false := by simp; omega
          have e47 : ((s[k].toNat : Int) == 47) = false := by simp; omega
          try (have e57 : decide ((s[k].toNat : Int) ≤ 57) = false := by (simp; omega))
          try (have e122 : decide ((s[k].toNat : Int) ≤ 122) = false := by (simp; omega))
          clear hb HC
          go_wp2_with fail
          go_ret
          exact ⟨ret_bool HB.out.symm, rfl⟩
    · have hkn : k = s.size := by omega
      have HK := Lib.hid hkn
      have HW := Lib.hid (word_all (by rw [hkn] at HP; exact HP.out))
      clear hkn
      by_cases h1 : 1 ≤ s.size <;> by_cases h2 : s.size ≤ 40
      all_goals go_wp2_with fail
      all_goals go_ret
      all_goals exact ⟨ret_bool (by rw [HW.out]; simp [inB]; omega), rfl⟩
theorem letter_any (c : Int) (w : World) : Calls Tryz.prog 99 #[.int .u8 c] w fun e w' => e = .returned (.bool (inB c 97 122)) ∧ w = w' := by
  by_cases h1 : 97 ≤ c <;> by_cases h2 : c ≤ 122
  all_goals
    go_enter Tryz.func99, Tryz.ntmps99
    go_wp2
    go_ret
    exact ⟨ret_bool (by simp [inB, h1, h2]), rfl⟩
theorem digit_any (c : Int) (w : World) : Calls Tryz.prog 100 #[.int .u8 c] w fun e w' => e = .returned (.bool (inB c 48 57)) ∧ w = w' := by
  by_cases h1 : 48 ≤ c <;> by_cases h2 : c ≤ 57
  all_goals
    go_enter Tryz.func100, Tryz.ntmps100
    go_wp2
    go_ret
    exact ⟨ret_bool (by simp [inB, h1, h2]), rfl⟩
theorem length_any (s : ByteArray) (hs : s.size ≤ maxLen) (w : World) : Calls Tryz.prog 101 #[.string s] w fun e w' => e = .returned (.int .i64 s.size) ∧ w = w' := by
  unfold maxLen at hs
  go_enter Tryz.func101, Tryz.ntmps101
  go_wp2
  go_ret
  exact ⟨rfl, rfl⟩
theorem mark3_lt (u : UInt8) : (Lib.indexByte [45, 46, 47] u < 0) ↔ ¬ (u.toNat = 45 ∨ u.toNat = 46 ∨ u.toNat = 47) := by
  have h45 : (45 : UInt8) = u ↔ u.toNat = 45 := ⟨fun h => by rw [← h]; rfl, fun h => UInt8.toNat_inj.1 h.symm⟩
  have h46 : (46 : UInt8) = u ↔ u.toNat = 46 := ⟨fun h => by rw [← h]; rfl, fun h => UInt8.toNat_inj.1 h.symm⟩
  have h47 : (47 : UInt8) = u ↔ u.toNat = 47 := ⟨fun h => by rw [← h]; rfl, fun h => UInt8.toNat_inj.1 h.symm⟩
  simp only [Lib.indexByte, beq_iff_eq, h45, h46, h47]
  repeat' split
  all_goals first | omega | simp_all
theorem implWordOk_any (s : ByteArray) (hs : s.size ≤ maxLen) (w : World) :
    Calls Tryz.prog 79 #[.string s] w fun e w' => e = .returned (.bool (wordOk s)) ∧ w = w' := by
  have HL := Lib.hid (fun W => length_any s hs W)
  unfold maxLen at hs
  go_enter Tryz.func79, Tryz.ntmps79
  go_wp2_with fail
  go_loop [6] (fun i => ∃ k : Nat, k ≤ s.size ∧ i = .int .i64 k ∧ ∀ (j : Nat) (u : UInt8), j < k → s.data.toList[j]? = some u → wordCh u = true) (fun i => s.size - (intOf i).toNat)
  case atStart => exact ⟨0, Nat.zero_le _, rfl, fun j x h => absurd h (by omega)⟩
  case round =>
    obtain ⟨k, hk, rfl, hpre⟩ := hrel
    have HP := Lib.hid hpre
    clear hpre
    by_cases hlt : k < s.size
    · cases h1 : inB (s[k].toNat : Int) 97 122
      · cases h2 : inB (s[k].toNat : Int) 48 57
        · have HI := Lib.hid (mark3_lt s[k])
          by_cases h3 : Lib.indexByte [45, 46, 47] s[k] < 0
          · have hd : decide (Lib.indexByte [45, 46, 47] s[k] < 0) = true := by simp [h3]
            have HB : Hid (wordOk s = false) := word_none hlt (by
              have := HI.out.1 h3
              simp only [wordCh, h1, h2, Bool.false_or, Bool.or_eq_false_iff, beq_eq_false_iff_ne, ne_eq]
              omega)
            clear h3
            go_wp2_with (first | (go_at_call 99; refine (letter_any _ _).mono ?_; rintro e w' ⟨rfl, rfl⟩) | (go_at_call 100; refine (digit_any _ _).mono ?_; rintro e w' ⟨rfl, rfl⟩) | (go_at_call 59; refine (indexByte_any _ _ _).mono ?_; rintro e w' ⟨rfl, rfl⟩; rw [u8_back]))
            go_ret
            exact ⟨ret_bool HB.out.symm, rfl⟩
          · have hd : decide (Lib.indexByte [45, 46, 47] s[k] < 0) = false := by simpa using h3
            have HB := Lib.hid (word_next hlt HP.out (by
              have := mt HI.out.2 h3
              simp only [wordCh, Bool.or_eq_true, beq_iff_eq]
              omega))
            clear h3
            go_wp2_with (first | (go_at_call 99; refine (letter_any _ _).mono ?_; rintro e w' ⟨rfl, rfl⟩) | (go_at_call 100; refine (digit_any _ _).mono ?_; rintro e w' ⟨rfl, rfl⟩) | (go_at_call 59; refine (indexByte_any _ _ _).mono ?_; rintro e w' ⟨rfl, rfl⟩; rw [u8_back]))
            go_round
            case rel => exact ⟨k + 1, by omega, by go_num, HB.out⟩
            case measure => simp [intOf]; omega
        · have HB := Lib.hid (word_next hlt HP.out (by simp [wordCh, h2]))
          go_wp2_with (first | (go_at_call 99; refine (letter_any _ _).mono ?_; rintro e w' ⟨rfl, rfl⟩) | (go_at_call 100; refine (digit_any _ _).mono ?_; rintro e w' ⟨rfl, rfl⟩))
          go_round
          case rel => exact ⟨k + 1, by omega, by go_num, HB.out⟩
          case measure => simp [intOf]; omega
      · have HB := Lib.hid (word_next hlt HP.out (by simp [wordCh, h1]))
        go_wp2_with (first | (go_at_call 99; refine (letter_any _ _).mono ?_; rintro e w' ⟨rfl, rfl⟩))
        go_round
        case rel => exact ⟨k + 1, by omega, by go_num, HB.out⟩
        case measure => simp [intOf]; omega
    · have hkn : k = s.size := by omega
      have HW := Lib.hid (word_all (by rw [hkn] at HP; exact HP.out))
      go_wp2_with (first | (go_at_call 101; refine (HL.out _).mono ?_; rintro e w' ⟨rfl, rfl⟩) | (go_at_call 46; refine (within_any _ _ _ _).mono ?_; rintro e w' ⟨rfl, rfl⟩))
      go_ret
      exact ⟨ret_bool HW.out.symm, rfl⟩

end Go.Proofs.YtflpfcnpjadccaaGreatDoor
