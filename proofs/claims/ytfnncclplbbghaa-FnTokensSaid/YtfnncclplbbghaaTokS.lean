/-
  Tokens: letters, digits, signs; spec.l05Word, l05Number, l05Skip, l05Lex (by program: gen_toks.py).
-/
import Derived.Test.YtfnncclplbbghaaTokP
import Derived.Test.YtfnncclplbbghaaIndexByte
namespace Go.Proofs.Ytfnncclplbbghaa
open Go.RowKit
set_option linter.unusedVariables false
set_option linter.unusedSimpArgs false
set_option linter.unnecessarySimpa false
set_option maxRecDepth 16000

theorem drop_byt {s : ByteArray} {k : Nat} (h : k < s.size) : (byt s).drop k = ((s[k].toNat : Nat) : Int) :: (byt s).drop (k + 1) := by
  have hl : k < (byt s).length := by rw [byt_length]; exact h
  rw [List.drop_eq_getElem_cons hl]
  have := byt_get h
  rw [List.getElem?_eq_getElem hl] at this
  injection this with this
  rw [this]
theorem drop_byt_end {s : ByteArray} {k : Nat} (h : s.size ≤ k) : (byt s).drop k = [] := List.drop_of_length_le (by rw [byt_length]; exact h)
theorem word_yes {c : Int} {r : List Int} (h : isLD c = true ∨ (c = 45 ∧ hdP isLD r = true)) : wordN (c :: r) = wordN r + 1 := by
  rw [wordN, if_pos]
  rw [Bool.or_eq_true, Bool.and_eq_true, decide_eq_true_eq]
  exact h
theorem word_no {c : Int} {r : List Int} (h : isLD c = false) (h2 : c = 45 → hdP isLD r = false) : wordN (c :: r) = 0 := by
  rw [wordN, if_neg]
  rw [Bool.or_eq_true, Bool.and_eq_true, decide_eq_true_eq, h]
  rintro (h3 | ⟨h3, h4⟩)
  · cases h3
  · rw [h2 h3] at h4; cases h4
theorem num_yes {c : Int} {r : List Int} (h : isD c = true ∨ (c = 46 ∧ hdP isD r = true)) : numN (c :: r) = numN r + 1 := by
  rw [numN, if_pos]
  rw [Bool.or_eq_true, Bool.and_eq_true, decide_eq_true_eq]
  exact h
theorem num_no {c : Int} {r : List Int} (h : isD c = false) (h2 : c = 46 → hdP isD r = false) : numN (c :: r) = 0 := by
  rw [numN, if_neg]
  rw [Bool.or_eq_true, Bool.and_eq_true, decide_eq_true_eq, h]
  rintro (h3 | ⟨h3, h4⟩)
  · cases h3
  · rw [h2 h3] at h4; cases h4
theorem isLD_l {c : Int} (h : isL c = true) : isLD c = true := by rw [isLD, h]; rfl
theorem isLD_d {c : Int} (h : isD c = true) : isLD c = true := by rw [isLD, h, Bool.or_true]
theorem isLD_no {c : Int} (h : isL c = false) (h2 : isD c = false) : isLD c = false := by rw [isLD, h, h2]; rfl
theorem specL_any (c : Int) (w : World) : Calls Try.prog 34 #[.int .u8 c] w fun e w' => e = .returned (.bool (isL c)) ∧ w = w' := by
  by_cases h1 : 97 ≤ c
  · have d1 : decide (97 ≤ c) = true := decide_eq_true h1
    by_cases h2 : c ≤ 122
    · have d2 : decide (c ≤ 122) = true := decide_eq_true h2
      have HF : Hid (isL c = true) := by show _ = _; rw [isL, d1, d2]; rfl
      go_enter Try.func34, Try.ntmps34
      go_wp2_with fail
      go_ret
      exact ⟨ret_bool HF.out.symm, rfl⟩
    · have d2 : decide (c ≤ 122) = false := decide_eq_false h2
      have HF : Hid (isL c = false) := by show _ = _; rw [isL, d1, d2]; rfl
      go_enter Try.func34, Try.ntmps34
      go_wp2_with fail
      go_ret
      exact ⟨ret_bool HF.out.symm, rfl⟩
  · have d1 : decide (97 ≤ c) = false := decide_eq_false h1
    have HF : Hid (isL c = false) := by show _ = _; rw [isL, d1]; rfl
    go_enter Try.func34, Try.ntmps34
    go_wp2_with fail
    go_ret
    exact ⟨ret_bool HF.out.symm, rfl⟩
theorem specD_any (c : Int) (w : World) : Calls Try.prog 36 #[.int .u8 c] w fun e w' => e = .returned (.bool (isD c)) ∧ w = w' := by
  by_cases h1 : 48 ≤ c
  · have d1 : decide (48 ≤ c) = true := decide_eq_true h1
    by_cases h2 : c ≤ 57
    · have d2 : decide (c ≤ 57) = true := decide_eq_true h2
      have HF : Hid (isD c = true) := by show _ = _; rw [isD, d1, d2]; rfl
      go_enter Try.func36, Try.ntmps36
      go_wp2_with fail
      go_ret
      exact ⟨ret_bool HF.out.symm, rfl⟩
    · have d2 : decide (c ≤ 57) = false := decide_eq_false h2
      have HF : Hid (isD c = false) := by show _ = _; rw [isD, d1, d2]; rfl
      go_enter Try.func36, Try.ntmps36
      go_wp2_with fail
      go_ret
      exact ⟨ret_bool HF.out.symm, rfl⟩
  · have d1 : decide (48 ≤ c) = false := decide_eq_false h1
    have HF : Hid (isD c = false) := by show _ = _; rw [isD, d1]; rfl
    go_enter Try.func36, Try.ntmps36
    go_wp2_with fail
    go_ret
    exact ⟨ret_bool HF.out.symm, rfl⟩
theorem implL_any (c : Int) (w : World) : Calls Try.prog 21 #[.int .u8 c] w fun e w' => e = .returned (.bool (isL c)) ∧ w = w' := by
  by_cases h1 : 97 ≤ c
  · have d1 : decide (97 ≤ c) = true := decide_eq_true h1
    by_cases h2 : c ≤ 122
    · have d2 : decide (c ≤ 122) = true := decide_eq_true h2
      have HF : Hid (isL c = true) := by show _ = _; rw [isL, d1, d2]; rfl
      go_enter Try.func21, Try.ntmps21
      go_wp2_with fail
      go_ret
      exact ⟨ret_bool HF.out.symm, rfl⟩
    · have d2 : decide (c ≤ 122) = false := decide_eq_false h2
      have HF : Hid (isL c = false) := by show _ = _; rw [isL, d1, d2]; rfl
      go_enter Try.func21, Try.ntmps21
      go_wp2_with fail
      go_ret
      exact ⟨ret_bool HF.out.symm, rfl⟩
  · have d1 : decide (97 ≤ c) = false := decide_eq_false h1
    have HF : Hid (isL c = false) := by show _ = _; rw [isL, d1]; rfl
    go_enter Try.func21, Try.ntmps21
    go_wp2_with fail
    go_ret
    exact ⟨ret_bool HF.out.symm, rfl⟩
theorem implD_any (c : Int) (w : World) : Calls Try.prog 23 #[.int .u8 c] w fun e w' => e = .returned (.bool (isD c)) ∧ w = w' := by
  by_cases h1 : 48 ≤ c
  · have d1 : decide (48 ≤ c) = true := decide_eq_true h1
    by_cases h2 : c ≤ 57
    · have d2 : decide (c ≤ 57) = true := decide_eq_true h2
      have HF : Hid (isD c = true) := by show _ = _; rw [isD, d1, d2]; rfl
      go_enter Try.func23, Try.ntmps23
      go_wp2_with fail
      go_ret
      exact ⟨ret_bool HF.out.symm, rfl⟩
    · have d2 : decide (c ≤ 57) = false := decide_eq_false h2
      have HF : Hid (isD c = false) := by show _ = _; rw [isD, d1, d2]; rfl
      go_enter Try.func23, Try.ntmps23
      go_wp2_with fail
      go_ret
      exact ⟨ret_bool HF.out.symm, rfl⟩
  · have d1 : decide (48 ≤ c) = false := decide_eq_false h1
    have HF : Hid (isD c = false) := by show _ = _; rw [isD, d1]; rfl
    go_enter Try.func23, Try.ntmps23
    go_wp2_with fail
    go_ret
    exact ⟨ret_bool HF.out.symm, rfl⟩
set_option maxHeartbeats 800000 in
theorem specS_any (c : Int) (w : World) : Calls Try.prog 38 #[.int .u8 c] w fun e w' => e = .returned (.bool (isS c)) ∧ w = w' := by
  obtain ⟨S, hS⟩ : ∃ S : ByteArray, S = ⟨#[123, 125, 40, 41, 60, 62, 44, 59, 58, 61, 46, 47, 64, 95]⟩ := ⟨_, rfl⟩
  have hb : byt S = signs := by rw [hS]; rfl
  have hsz : S.size = 14 := by rw [hS]; rfl
  have HB := Lib.hid hb
  have HS := Lib.hid hS
  clear hb hS
  go_enter Try.func38, Try.ntmps38
  go_wp2_with fail
  rw [← HS.out]
  go_loopw [4] (fun i wr => ∃ k : Nat, i = .int .i64 k ∧ k ≤ 14 ∧ Hid (∀ (j : Nat) (x : Int), j < k → signs[j]? = some x → x ≠ c) ∧ w = wr) (fun i _ => 14 - (intOf i).toNat)
  case atStart => exact ⟨0, rfl, Nat.zero_le _, Lib.hid fun j x hj => absurd hj (by omega), rfl⟩
  case round =>
    obtain ⟨k, rfl, hk, HP, rfl⟩ := hrel
    by_cases hlt : k < S.size
    case neg =>
      have hk14 : k = 14 := by omega
      have HF : Hid (isS c = false) := by
        show _ = _
        rw [isS, ← Bool.not_eq_true, List.contains_iff_mem]
        intro hm
        obtain ⟨j, hj, he⟩ := List.getElem_of_mem hm
        exact HP.out j c (by rw [hk14]; exact hj) (by rw [← he]; exact List.getElem?_eq_getElem hj) rfl
      have hd : decide ((k : Int) < (S.size : Int)) = false := decide_eq_false (by omega)
      clear hk14 hsz
      go_wp2_with fail
      go_ret
      exact ⟨ret_bool HF.out.symm, rfl⟩
    have hx := byt_get hlt
    rw [HB.out] at hx
    obtain ⟨d, hd⟩ : ∃ d, S[k].toNat = d := ⟨_, rfl⟩
    have hlti : decide ((k : Int) < (S.size : Int)) = true := decide_eq_true (by omega)
    rw [hd] at hx
    have HX := Lib.hid hx
    have HSZ := Lib.hid hsz
    clear hx hsz
    by_cases he : (d : Int) = c
    · have HF : Hid (isS c = true) := by
        show _ = _
        rw [isS, List.contains_iff_mem, ← he]
        exact List.mem_of_getElem? HX.out
      subst he
      go_wp2_with fail
      go_ret
      exact ⟨ret_bool HF.out.symm, rfl⟩
    · have hb2 : ((d : Int) == c) = false := by simpa using he
      have HP2 : Hid (∀ (j : Nat) (x : Int), j < k + 1 → signs[j]? = some x → x ≠ c) := by
        intro j x hj hx
        by_cases e : j = k
        · subst e
          rw [HX.out] at hx
          injection hx with hx
          rw [← hx]; exact he
        · exact HP.out j x (by omega) hx
      clear he
      have hki : IntKind.i64.wrap ((k : Int) + 1) = (k : Int) + 1 := IntWalk.i64_in _ (by omega)
      go_wp2_with fail
      go_roundw
      case rel => exact ⟨k + 1, by go_num, by have := HSZ.out; omega, HP2, trivial⟩
      case measure => have := HSZ.out; simp [intOf]; omega
set_option maxHeartbeats 1600000 in
theorem l05Word_any {s : ByteArray} {a : Nat} (ha : a ≤ s.size) (hs : s.size ≤ 1048576) (w : World) : Calls Try.prog 35 #[.string s, .int .i64 a] w fun e w' => e = .returned (.int .i64 ((a + wordN ((byt s).drop a) : Nat) : Int)) ∧ w = w' := by
  obtain ⟨N, hN⟩ : ∃ N, N = a + wordN ((byt s).drop a) := ⟨_, rfl⟩
  rw [← hN]
  have HN : Hid (a + wordN ((byt s).drop a) = N) := hN.symm
  clear hN
  go_enter Try.func35, Try.ntmps35
  go_wp2_with fail
  go_loopw [1] (fun i wr => ∃ k : Nat, i = .int .i64 k ∧ k ≤ s.size ∧ Hid (k + wordN ((byt s).drop k) = N) ∧ w = wr) (fun i _ => s.size - (intOf i).toNat)
  case atStart => exact ⟨a, rfl, ha, HN, rfl⟩
  case round =>
    obtain ⟨k, rfl, hk, HK, rfl⟩ := hrel
    have hki : IntKind.i64.wrap ((k : Int) + 1) = (k : Int) + 1 := IntWalk.i64_in _ (by omega)
    by_cases hlt : k < s.size
    case neg =>
      have HF : Hid (k = N) := by show _ = _; have := HK.out; rw [drop_byt_end (by omega)] at this; simpa [wordN] using this
      have hd : decide ((k : Int) < (s.size : Int)) = false := decide_eq_false (by omega)
      go_wp2_with fail
      go_ret
      exact ⟨ret_int (by rw [HF.out]), rfl⟩
    have hrest := drop_byt hlt
    obtain ⟨c, hc⟩ : ∃ c, s[k].toNat = c := ⟨_, rfl⟩
    rw [hc] at hrest
    have hlti : decide ((k : Int) < (s.size : Int)) = true := decide_eq_true (by omega)
    have HR := Lib.hid hrest
    clear hrest
    have HYES : Hid (wordN (((c : Nat) : Int) :: (byt s).drop (k + 1)) = wordN ((byt s).drop (k + 1)) + 1 → k + 1 + wordN ((byt s).drop (k + 1)) = N) := fun h => by have := HK.out; rw [HR.out, h] at this; omega
    have HNO : Hid (wordN (((c : Nat) : Int) :: (byt s).drop (k + 1)) = 0 → k = N) := fun h => by have := HK.out; rw [HR.out, h] at this; omega
    go_wp2_with fail
    refine (specL_any _ _).mono ?_
    rintro e w' ⟨rfl, rfl⟩
    cases h0 : isL ((c : Nat) : Int)
    case true =>
      have HG := Lib.hid (HYES.out (word_yes (.inl (isLD_l h0))))
      clear h0
      go_wp2_with fail
      go_roundw
      case rel => exact ⟨k + 1, by go_num, by omega, HG, trivial⟩
      case measure => simp [intOf]; omega
    go_wp2_with fail
    refine (specD_any _ _).mono ?_
    rintro e w' ⟨rfl, rfl⟩
    cases h1 : isD ((c : Nat) : Int)
    case true =>
      have HG := Lib.hid (HYES.out (word_yes (.inl (isLD_d h1))))
      clear h1
      go_wp2_with fail
      go_roundw
      case rel => exact ⟨k + 1, by go_num, by omega, HG, trivial⟩
      case measure => simp [intOf]; omega
    have hn : isLD ((c : Nat) : Int) = false := isLD_no h0 h1
    have HNF := Lib.hid hn
    clear hn
    by_cases h45 : c = 45
    case neg =>
      have e45 : (((c : Nat) : Int) == 45) = false := by simp; omega
      have HF := Lib.hid (HNO.out (word_no HNF.out (fun e => by omega)))
      go_wp2_with fail
      go_ret
      exact ⟨ret_int (by rw [HF.out]), rfl⟩
    subst h45
    by_cases h1k : k + 1 < s.size
    case neg =>
      have hd : decide ((k : Int) + 1 < (s.size : Int)) = false := decide_eq_false (by omega)
      have HF := Lib.hid (HNO.out (word_no HNF.out (fun e => by rw [drop_byt_end (by omega)]; rfl)))
      go_wp2_with fail
      go_ret
      exact ⟨ret_int (by rw [HF.out]), rfl⟩
    have hr2 := drop_byt h1k
    obtain ⟨d, hd⟩ : ∃ d, s[k + 1].toNat = d := ⟨_, rfl⟩
    rw [hd] at hr2
    have HR2 := Lib.hid hr2
    have hl3 : (k : Int) + 1 < (s.size : Int) := by omega
    have hl4 : (0 : Int) ≤ (k : Int) + 1 := by omega
    have hd1 : decide ((k : Int) + 1 < (s.size : Int)) = true := decide_eq_true (by omega)
    clear hr2
    go_wp2_with fail
    refine (specL_any _ _).mono ?_
    rintro e w' ⟨rfl, rfl⟩
    cases g0 : isL ((d : Nat) : Int)
    case true =>
      have HG := Lib.hid (HYES.out (word_yes (.inr ⟨rfl, by rw [HR2.out]; exact isLD_l g0⟩)))
      clear g0
      go_wp2_with fail
      go_roundw
      case rel => exact ⟨k + 1, by go_num, by omega, HG, trivial⟩
      case measure => simp [intOf]; omega
    go_wp2_with fail
    refine (specD_any _ _).mono ?_
    rintro e w' ⟨rfl, rfl⟩
    cases g1 : isD ((d : Nat) : Int)
    case true =>
      have HG := Lib.hid (HYES.out (word_yes (.inr ⟨rfl, by rw [HR2.out]; exact isLD_d g1⟩)))
      clear g1
      go_wp2_with fail
      go_roundw
      case rel => exact ⟨k + 1, by go_num, by omega, HG, trivial⟩
      case measure => simp [intOf]; omega
    have HF := Lib.hid (HNO.out (word_no HNF.out (fun e => by rw [HR2.out]; exact isLD_no g0 g1)))
    go_wp2_with fail
    go_ret
    exact ⟨ret_int (by rw [HF.out]), rfl⟩
set_option maxHeartbeats 1600000 in
theorem l05Number_any {s : ByteArray} {a : Nat} (ha : a ≤ s.size) (hs : s.size ≤ 1048576) (w : World) : Calls Try.prog 37 #[.string s, .int .i64 a] w fun e w' => e = .returned (.int .i64 ((a + numN ((byt s).drop a) : Nat) : Int)) ∧ w = w' := by
  obtain ⟨N, hN⟩ : ∃ N, N = a + numN ((byt s).drop a) := ⟨_, rfl⟩
  rw [← hN]
  have HN : Hid (a + numN ((byt s).drop a) = N) := hN.symm
  clear hN
  go_enter Try.func37, Try.ntmps37
  go_wp2_with fail
  go_loopw [1] (fun i wr => ∃ k : Nat, i = .int .i64 k ∧ k ≤ s.size ∧ Hid (k + numN ((byt s).drop k) = N) ∧ w = wr) (fun i _ => s.size - (intOf i).toNat)
  case atStart => exact ⟨a, rfl, ha, HN, rfl⟩
  case round =>
    obtain ⟨k, rfl, hk, HK, rfl⟩ := hrel
    have hki : IntKind.i64.wrap ((k : Int) + 1) = (k : Int) + 1 := IntWalk.i64_in _ (by omega)
    by_cases hlt : k < s.size
    case neg =>
      have HF : Hid (k = N) := by show _ = _; have := HK.out; rw [drop_byt_end (by omega)] at this; simpa [numN] using this
      have hd : decide ((k : Int) < (s.size : Int)) = false := decide_eq_false (by omega)
      go_wp2_with fail
      go_ret
      exact ⟨ret_int (by rw [HF.out]), rfl⟩
    have hrest := drop_byt hlt
    obtain ⟨c, hc⟩ : ∃ c, s[k].toNat = c := ⟨_, rfl⟩
    rw [hc] at hrest
    have hlti : decide ((k : Int) < (s.size : Int)) = true := decide_eq_true (by omega)
    have HR := Lib.hid hrest
    clear hrest
    have HYES : Hid (numN (((c : Nat) : Int) :: (byt s).drop (k + 1)) = numN ((byt s).drop (k + 1)) + 1 → k + 1 + numN ((byt s).drop (k + 1)) = N) := fun h => by have := HK.out; rw [HR.out, h] at this; omega
    have HNO : Hid (numN (((c : Nat) : Int) :: (byt s).drop (k + 1)) = 0 → k = N) := fun h => by have := HK.out; rw [HR.out, h] at this; omega
    go_wp2_with fail
    refine (specD_any _ _).mono ?_
    rintro e w' ⟨rfl, rfl⟩
    cases h0 : isD ((c : Nat) : Int)
    case true =>
      have HG := Lib.hid (HYES.out (num_yes (.inl (h0))))
      clear h0
      go_wp2_with fail
      go_roundw
      case rel => exact ⟨k + 1, by go_num, by omega, HG, trivial⟩
      case measure => simp [intOf]; omega
    have hn : isD ((c : Nat) : Int) = false := h0
    have HNF := Lib.hid hn
    clear hn
    by_cases h45 : c = 46
    case neg =>
      have e45 : (((c : Nat) : Int) == 46) = false := by simp; omega
      have HF := Lib.hid (HNO.out (num_no HNF.out (fun e => by omega)))
      go_wp2_with fail
      go_ret
      exact ⟨ret_int (by rw [HF.out]), rfl⟩
    subst h45
    by_cases h1k : k + 1 < s.size
    case neg =>
      have hd : decide ((k : Int) + 1 < (s.size : Int)) = false := decide_eq_false (by omega)
      have HF := Lib.hid (HNO.out (num_no HNF.out (fun e => by rw [drop_byt_end (by omega)]; rfl)))
      go_wp2_with fail
      go_ret
      exact ⟨ret_int (by rw [HF.out]), rfl⟩
    have hr2 := drop_byt h1k
    obtain ⟨d, hd⟩ : ∃ d, s[k + 1].toNat = d := ⟨_, rfl⟩
    rw [hd] at hr2
    have HR2 := Lib.hid hr2
    have hl3 : (k : Int) + 1 < (s.size : Int) := by omega
    have hl4 : (0 : Int) ≤ (k : Int) + 1 := by omega
    have hd1 : decide ((k : Int) + 1 < (s.size : Int)) = true := decide_eq_true (by omega)
    clear hr2
    go_wp2_with fail
    refine (specD_any _ _).mono ?_
    rintro e w' ⟨rfl, rfl⟩
    cases g0 : isD ((d : Nat) : Int)
    case true =>
      have HG := Lib.hid (HYES.out (num_yes (.inr ⟨rfl, by rw [HR2.out]; exact g0⟩)))
      clear g0
      go_wp2_with fail
      go_roundw
      case rel => exact ⟨k + 1, by go_num, by omega, HG, trivial⟩
      case measure => simp [intOf]; omega
    have HF := Lib.hid (HNO.out (num_no HNF.out (fun e => by rw [HR2.out]; exact g0)))
    go_wp2_with fail
    go_ret
    exact ⟨ret_int (by rw [HF.out]), rfl⟩
end Go.Proofs.Ytfnncclplbbghaa

