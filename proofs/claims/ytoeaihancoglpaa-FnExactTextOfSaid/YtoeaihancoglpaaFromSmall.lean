/-
  spec.FromSmall and impl.FromSmall return the same number and bool.
-/
import Derived.Test.YtoeaihancoglpaaNum
namespace Go.Proofs.Ytoeaihancoglpaa
open Go.RowKit
set_option linter.unusedVariables false

def charOk (n : Int) : Bool := inB n 0 55295 || inB n 57344 1114111
def fsLo (k : Int) : Int := if k == 4 then -128 else if k == 6 then -32768 else if k == 8 then -2147483648 else 0
def fsHi (k : Int) : Int := if k == 2 then 1 else if k == 3 then 255 else if k == 4 then 127 else if k == 5 then 65535 else if k == 6 then 32767 else if k == 7 then 4294967295 else if k == 8 then 2147483647
  else if k == 20 || k == 21 || k == 22 || k == 23 then 2147483647 else -1
def fsVal (k n : Int) : Int := if (k == 4 || k == 6 || k == 8) && decide (2147483647 < n) then n - 4294967296 else n
def fsOk (k n : Int) : Bool := inB n 0 4294967295 && (if k == 10 then charOk n else inB (fsVal k n) (fsLo k) (fsHi k))
def fsNum (k n : Int) : Int := if fsOk k n then fsVal k n else 0

theorem ret_fs {a a' : Int} {b b' : Bool} (h1 : a = a') (h2 : b = b') : Ending.returned (.tuple #[.int .i64 a, .bool b]) = .returned (.tuple #[.int .i64 a', .bool b']) := by rw [h1, h2]

theorem specCharOk_any (n : Int) (w : World) : Calls Try.prog 61 #[.int .i64 n] w fun e w' => e = .returned (.bool (charOk n)) ∧ w = w' := by
  cases h1 : inB n 0 55295 <;> cases h2 : inB n 57344 1114111
  all_goals
    go_enter Try.func61, Try.ntmps61
    go_wp2_with (first | (go_at_call 47; refine (l00In_any _ _ _ _).mono ?_; rintro e w' ⟨rfl, rfl⟩))
    go_ret
    exact ⟨ret_bool (by simp [charOk, h1, h2]), rfl⟩
theorem implCharOk_any (n : Int) (w : World) : Calls Try.prog 63 #[.int .i64 n] w fun e w' => e = .returned (.bool (charOk n)) ∧ w = w' := by
  cases h1 : inB n 0 55295 <;> cases h2 : inB n 57344 1114111
  all_goals
    go_enter Try.func63, Try.ntmps63
    go_wp2_with (first | (go_at_call 48; refine (within_any _ _ _ _).mono ?_; rintro e w' ⟨rfl, rfl⟩))
    go_ret
    exact ⟨ret_bool (by simp [charOk, h1, h2]), rfl⟩

def rgLo (k : Int) : Int := if k == 3 then 0 else if k == 4 then -128 else if k == 5 then 0 else if k == 6 then -32768 else if k == 7 then 0 else if k == 8 then -2147483648 else if k == 9 then -9223372036854775808 else 0
def rgHi (k : Int) : Int := if k == 3 then 255 else if k == 4 then 127 else if k == 5 then 65535 else if k == 6 then 32767 else if k == 7 then 4294967295 else if k == 8 then 2147483647 else if k == 9 then 9223372036854775807 else 0
def rgOk (k : Int) : Bool := k == 3 || k == 4 || k == 5 || k == 6 || k == 7 || k == 8 || k == 9
theorem ret_rg {a b a' b' : Int} {c c' : Bool} (h1 : a = a') (h2 : b = b') (h3 : c = c') :
    Ending.returned (.tuple #[.int .i64 a, .int .i64 b, .bool c]) = .returned (.tuple #[.int .i64 a', .int .i64 b', .bool c']) := by rw [h1, h2, h3]
theorem specRange_any (k : Int) (w : World) : Calls Try.prog 67 #[.int .i64 k] w fun e w' => e = .returned (.tuple #[.int .i64 (rgLo k), .int .i64 (rgHi k), .bool (rgOk k)]) ∧ w = w' := by
  go_enter Try.func67, Try.ntmps67
  go_wp2
  all_goals go_ret3
  all_goals exact ⟨ret_rg (by simp [rgLo, *]) (by simp [rgHi, *]) (by simp [rgOk, *]), rfl⟩
theorem implRange_any (k : Int) (w : World) : Calls Try.prog 75 #[.int .i64 k] w fun e w' => e = .returned (.tuple #[.int .i64 (rgLo k), .int .i64 (rgHi k), .bool (rgOk k)]) ∧ w = w' := by
  go_enter Try.func75, Try.ntmps75
  go_wp2
  all_goals go_ret3
  all_goals exact ⟨ret_rg (by simp [rgLo, *]) (by simp [rgHi, *]) (by simp [rgOk, *]), rfl⟩
theorem small_any (n : Int) (w : World) : Calls Try.prog 58 #[.int .i64 n] w fun e w' => e = .returned (.bool (inB n 0 4294967295)) ∧ w = w' := by
  go_enter Try.func58, Try.ntmps58
  go_wp2_with (first | (go_at_call 48; refine (within_any _ _ _ _).mono ?_; rintro e w' ⟨rfl, rfl⟩))
  go_ret
  exact ⟨rfl, rfl⟩

/-- the kinds one by one -/
theorem kind_cases (k : Int) : k = 2 ∨ k = 3 ∨ k = 4 ∨ k = 5 ∨ k = 6 ∨ k = 7 ∨ k = 8 ∨ k = 9 ∨ k = 10 ∨ k = 20 ∨ k = 21 ∨ k = 22 ∨ k = 23 ∨
    ((k == 2) = false ∧ (k == 3) = false ∧ (k == 4) = false ∧ (k == 5) = false ∧ (k == 6) = false ∧ (k == 7) = false ∧ (k == 8) = false ∧ (k == 9) = false ∧ (k == 10) = false ∧
      (k == 20) = false ∧ (k == 21) = false ∧ (k == 22) = false ∧ (k == 23) = false) := by
  simp only [beq_eq_false_iff_ne, ne_eq]
  omega

set_option maxHeartbeats 1600000 in
set_option maxHeartbeats 1600000 in
set_option maxHeartbeats 1600000 in
set_option maxHeartbeats 1600000 in
theorem specFromSmall_any (k n : Int) (w : World) : Calls Try.prog 40 #[.int .i64 k, .int .i64 n] w fun e w' => e = .returned (.tuple #[.int .i64 (fsNum k n), .bool (fsOk k n)]) ∧ w = w' := by
  cases h0 : inB n 0 4294967295
  · have hf : fsOk k n = false := by simp [fsOk, h0]
    have hn : fsNum k n = 0 := by simp [fsNum, hf]
    rw [hf, hn]
    clear hf hn
    go_enter Try.func40, Try.ntmps40
    go_wp2_with (first | (go_at_call 47; refine (l00In_any _ _ _ _).mono ?_; rintro e w' ⟨rfl, rfl⟩) | (go_at_call 61; refine (specCharOk_any _ _).mono ?_; rintro e w' ⟨rfl, rfl⟩) | (go_at_call 67; refine (specRange_any _ _).mono ?_; rintro e w' ⟨rfl, rfl⟩) | go_in)
    go_ret2
    exact ⟨rfl, rfl⟩
  · obtain ⟨hb1, hb2⟩ := inB_iff.1 h0
    rcases kind_cases k with rfl | rfl | rfl | rfl | rfl | rfl | rfl | rfl | rfl | rfl | rfl | rfl | rfl | ⟨h2, h3, h4, h5, h6, h7, h8, h9, h10, h20, h21, h22, h23⟩
    · cases hr : inB n 0 1
      · have hf : fsOk 2 n = false := by simp [fsOk, h0, fsVal, fsLo, fsHi, hr]
        have hn : fsNum 2 n = 0 := by simp [fsNum, hf]
        rw [hf, hn]
        clear hf hn
        go_enter Try.func40, Try.ntmps40
        go_wp2_with (first | (go_at_call 47; refine (l00In_any _ _ _ _).mono ?_; rintro e w' ⟨rfl, rfl⟩) | (go_at_call 61; refine (specCharOk_any _ _).mono ?_; rintro e w' ⟨rfl, rfl⟩) | (go_at_call 67; refine (specRange_any _ _).mono ?_; rintro e w' ⟨rfl, rfl⟩) | go_in)
        go_ret2
        exact ⟨rfl, rfl⟩
      · have hf : fsOk 2 n = true := by simp [fsOk, h0, fsVal, fsLo, fsHi, hr]
        have hn : fsNum 2 n = n := by simp [fsNum, hf, fsVal]
        rw [hf, hn]
        clear hf hn
        go_enter Try.func40, Try.ntmps40
        go_wp2_with (first | (go_at_call 47; refine (l00In_any _ _ _ _).mono ?_; rintro e w' ⟨rfl, rfl⟩) | (go_at_call 61; refine (specCharOk_any _ _).mono ?_; rintro e w' ⟨rfl, rfl⟩) | (go_at_call 67; refine (specRange_any _ _).mono ?_; rintro e w' ⟨rfl, rfl⟩) | go_in)
        go_ret2
        exact ⟨rfl, rfl⟩
    · cases hr : inB n 0 255
      · have hf : fsOk 3 n = false := by simp [fsOk, h0, fsVal, fsLo, fsHi, hr]
        have hn : fsNum 3 n = 0 := by simp [fsNum, hf]
        rw [hf, hn]
        clear hf hn
        have e1 : rgLo 3 = 0 := by decide
        have e2 : rgHi 3 = 255 := by decide
        go_enter Try.func40, Try.ntmps40
        go_wp2_with (first | (go_at_call 47; refine (l00In_any _ _ _ _).mono ?_; rintro e w' ⟨rfl, rfl⟩) | (go_at_call 61; refine (specCharOk_any _ _).mono ?_; rintro e w' ⟨rfl, rfl⟩) | (go_at_call 67; refine (specRange_any _ _).mono ?_; rintro e w' ⟨rfl, rfl⟩) | go_in)
        go_ret2
        exact ⟨rfl, rfl⟩
      · have hf : fsOk 3 n = true := by simp [fsOk, h0, fsVal, fsLo, fsHi, hr]
        have hn : fsNum 3 n = n := by simp [fsNum, hf, fsVal]
        rw [hf, hn]
        clear hf hn
        have e1 : rgLo 3 = 0 := by decide
        have e2 : rgHi 3 = 255 := by decide
        go_enter Try.func40, Try.ntmps40
        go_wp2_with (first | (go_at_call 47; refine (l00In_any _ _ _ _).mono ?_; rintro e w' ⟨rfl, rfl⟩) | (go_at_call 61; refine (specCharOk_any _ _).mono ?_; rintro e w' ⟨rfl, rfl⟩) | (go_at_call 67; refine (specRange_any _ _).mono ?_; rintro e w' ⟨rfl, rfl⟩) | go_in)
        go_ret2
        exact ⟨rfl, rfl⟩
    · by_cases hbig : 2147483647 < n
      · skip
        cases hr : inB (n - 4294967296) (-128) 127
        · have hf : fsOk 4 n = false := by simp [fsOk, h0, fsVal, fsLo, fsHi, hr, hbig]
          have hn : fsNum 4 n = 0 := by simp [fsNum, hf]
          rw [hf, hn]
          clear hf hn
          have e1 : rgLo 4 = -128 := by decide
          have e2 : rgHi 4 = 127 := by decide
          go_enter Try.func40, Try.ntmps40
          go_wp2_with (first | (go_at_call 47; refine (l00In_any _ _ _ _).mono ?_; rintro e w' ⟨rfl, rfl⟩) | (go_at_call 61; refine (specCharOk_any _ _).mono ?_; rintro e w' ⟨rfl, rfl⟩) | (go_at_call 67; refine (specRange_any _ _).mono ?_; rintro e w' ⟨rfl, rfl⟩) | go_in)
          go_ret2
          exact ⟨rfl, rfl⟩
        · have hf : fsOk 4 n = true := by simp [fsOk, h0, fsVal, fsLo, fsHi, hr, hbig]
          have hn : fsNum 4 n = n - 4294967296 := by simp [fsNum, hf, fsVal, hbig]
          rw [hf, hn]
          clear hf hn
          have e1 : rgLo 4 = -128 := by decide
          have e2 : rgHi 4 = 127 := by decide
          go_enter Try.func40, Try.ntmps40
          go_wp2_with (first | (go_at_call 47; refine (l00In_any _ _ _ _).mono ?_; rintro e w' ⟨rfl, rfl⟩) | (go_at_call 61; refine (specCharOk_any _ _).mono ?_; rintro e w' ⟨rfl, rfl⟩) | (go_at_call 67; refine (specRange_any _ _).mono ?_; rintro e w' ⟨rfl, rfl⟩) | go_in)
          go_ret2
          exact ⟨rfl, rfl⟩
      · skip
        cases hr : inB (n) (-128) 127
        · have hf : fsOk 4 n = false := by simp [fsOk, h0, fsVal, fsLo, fsHi, hr, hbig]
          have hn : fsNum 4 n = 0 := by simp [fsNum, hf]
          rw [hf, hn]
          clear hf hn
          have e1 : rgLo 4 = -128 := by decide
          have e2 : rgHi 4 = 127 := by decide
          go_enter Try.func40, Try.ntmps40
          go_wp2_with (first | (go_at_call 47; refine (l00In_any _ _ _ _).mono ?_; rintro e w' ⟨rfl, rfl⟩) | (go_at_call 61; refine (specCharOk_any _ _).mono ?_; rintro e w' ⟨rfl, rfl⟩) | (go_at_call 67; refine (specRange_any _ _).mono ?_; rintro e w' ⟨rfl, rfl⟩) | go_in)
          go_ret2
          exact ⟨rfl, rfl⟩
        · have hf : fsOk 4 n = true := by simp [fsOk, h0, fsVal, fsLo, fsHi, hr, hbig]
          have hn : fsNum 4 n = n := by simp [fsNum, hf, fsVal, hbig]
          rw [hf, hn]
          clear hf hn
          have e1 : rgLo 4 = -128 := by decide
          have e2 : rgHi 4 = 127 := by decide
          go_enter Try.func40, Try.ntmps40
          go_wp2_with (first | (go_at_call 47; refine (l00In_any _ _ _ _).mono ?_; rintro e w' ⟨rfl, rfl⟩) | (go_at_call 61; refine (specCharOk_any _ _).mono ?_; rintro e w' ⟨rfl, rfl⟩) | (go_at_call 67; refine (specRange_any _ _).mono ?_; rintro e w' ⟨rfl, rfl⟩) | go_in)
          go_ret2
          exact ⟨rfl, rfl⟩
    · cases hr : inB n 0 65535
      · have hf : fsOk 5 n = false := by simp [fsOk, h0, fsVal, fsLo, fsHi, hr]
        have hn : fsNum 5 n = 0 := by simp [fsNum, hf]
        rw [hf, hn]
        clear hf hn
        have e1 : rgLo 5 = 0 := by decide
        have e2 : rgHi 5 = 65535 := by decide
        go_enter Try.func40, Try.ntmps40
        go_wp2_with (first | (go_at_call 47; refine (l00In_any _ _ _ _).mono ?_; rintro e w' ⟨rfl, rfl⟩) | (go_at_call 61; refine (specCharOk_any _ _).mono ?_; rintro e w' ⟨rfl, rfl⟩) | (go_at_call 67; refine (specRange_any _ _).mono ?_; rintro e w' ⟨rfl, rfl⟩) | go_in)
        go_ret2
        exact ⟨rfl, rfl⟩
      · have hf : fsOk 5 n = true := by simp [fsOk, h0, fsVal, fsLo, fsHi, hr]
        have hn : fsNum 5 n = n := by simp [fsNum, hf, fsVal]
        rw [hf, hn]
        clear hf hn
        have e1 : rgLo 5 = 0 := by decide
        have e2 : rgHi 5 = 65535 := by decide
        go_enter Try.func40, Try.ntmps40
        go_wp2_with (first | (go_at_call 47; refine (l00In_any _ _ _ _).mono ?_; rintro e w' ⟨rfl, rfl⟩) | (go_at_call 61; refine (specCharOk_any _ _).mono ?_; rintro e w' ⟨rfl, rfl⟩) | (go_at_call 67; refine (specRange_any _ _).mono ?_; rintro e w' ⟨rfl, rfl⟩) | go_in)
        go_ret2
        exact ⟨rfl, rfl⟩
    · by_cases hbig : 2147483647 < n
      · skip
        cases hr : inB (n - 4294967296) (-32768) 32767
        · have hf : fsOk 6 n = false := by simp [fsOk, h0, fsVal, fsLo, fsHi, hr, hbig]
          have hn : fsNum 6 n = 0 := by simp [fsNum, hf]
          rw [hf, hn]
          clear hf hn
          have e1 : rgLo 6 = -32768 := by decide
          have e2 : rgHi 6 = 32767 := by decide
          go_enter Try.func40, Try.ntmps40
          go_wp2_with (first | (go_at_call 47; refine (l00In_any _ _ _ _).mono ?_; rintro e w' ⟨rfl, rfl⟩) | (go_at_call 61; refine (specCharOk_any _ _).mono ?_; rintro e w' ⟨rfl, rfl⟩) | (go_at_call 67; refine (specRange_any _ _).mono ?_; rintro e w' ⟨rfl, rfl⟩) | go_in)
          go_ret2
          exact ⟨rfl, rfl⟩
        · have hf : fsOk 6 n = true := by simp [fsOk, h0, fsVal, fsLo, fsHi, hr, hbig]
          have hn : fsNum 6 n = n - 4294967296 := by simp [fsNum, hf, fsVal, hbig]
          rw [hf, hn]
          clear hf hn
          have e1 : rgLo 6 = -32768 := by decide
          have e2 : rgHi 6 = 32767 := by decide
          go_enter Try.func40, Try.ntmps40
          go_wp2_with (first | (go_at_call 47; refine (l00In_any _ _ _ _).mono ?_; rintro e w' ⟨rfl, rfl⟩) | (go_at_call 61; refine (specCharOk_any _ _).mono ?_; rintro e w' ⟨rfl, rfl⟩) | (go_at_call 67; refine (specRange_any _ _).mono ?_; rintro e w' ⟨rfl, rfl⟩) | go_in)
          go_ret2
          exact ⟨rfl, rfl⟩
      · skip
        cases hr : inB (n) (-32768) 32767
        · have hf : fsOk 6 n = false := by simp [fsOk, h0, fsVal, fsLo, fsHi, hr, hbig]
          have hn : fsNum 6 n = 0 := by simp [fsNum, hf]
          rw [hf, hn]
          clear hf hn
          have e1 : rgLo 6 = -32768 := by decide
          have e2 : rgHi 6 = 32767 := by decide
          go_enter Try.func40, Try.ntmps40
          go_wp2_with (first | (go_at_call 47; refine (l00In_any _ _ _ _).mono ?_; rintro e w' ⟨rfl, rfl⟩) | (go_at_call 61; refine (specCharOk_any _ _).mono ?_; rintro e w' ⟨rfl, rfl⟩) | (go_at_call 67; refine (specRange_any _ _).mono ?_; rintro e w' ⟨rfl, rfl⟩) | go_in)
          go_ret2
          exact ⟨rfl, rfl⟩
        · have hf : fsOk 6 n = true := by simp [fsOk, h0, fsVal, fsLo, fsHi, hr, hbig]
          have hn : fsNum 6 n = n := by simp [fsNum, hf, fsVal, hbig]
          rw [hf, hn]
          clear hf hn
          have e1 : rgLo 6 = -32768 := by decide
          have e2 : rgHi 6 = 32767 := by decide
          go_enter Try.func40, Try.ntmps40
          go_wp2_with (first | (go_at_call 47; refine (l00In_any _ _ _ _).mono ?_; rintro e w' ⟨rfl, rfl⟩) | (go_at_call 61; refine (specCharOk_any _ _).mono ?_; rintro e w' ⟨rfl, rfl⟩) | (go_at_call 67; refine (specRange_any _ _).mono ?_; rintro e w' ⟨rfl, rfl⟩) | go_in)
          go_ret2
          exact ⟨rfl, rfl⟩
    · have hf : fsOk 7 n = true := by simp [fsOk, h0, fsVal, fsLo, fsHi]
      have hn : fsNum 7 n = n := by simp [fsNum, hf, fsVal]
      rw [hf, hn]
      clear hf hn
      have e1 : rgLo 7 = 0 := by decide
      have e2 : rgHi 7 = 4294967295 := by decide
      go_enter Try.func40, Try.ntmps40
      go_wp2_with (first | (go_at_call 47; refine (l00In_any _ _ _ _).mono ?_; rintro e w' ⟨rfl, rfl⟩) | (go_at_call 61; refine (specCharOk_any _ _).mono ?_; rintro e w' ⟨rfl, rfl⟩) | (go_at_call 67; refine (specRange_any _ _).mono ?_; rintro e w' ⟨rfl, rfl⟩) | go_in)
      go_ret2
      exact ⟨rfl, rfl⟩
    · by_cases hbig : 2147483647 < n
      · skip
        cases hr : inB (n - 4294967296) (-2147483648) 2147483647
        · have hf : fsOk 8 n = false := by simp [fsOk, h0, fsVal, fsLo, fsHi, hr, hbig]
          have hn : fsNum 8 n = 0 := by simp [fsNum, hf]
          rw [hf, hn]
          clear hf hn
          have e1 : rgLo 8 = -2147483648 := by decide
          have e2 : rgHi 8 = 2147483647 := by decide
          go_enter Try.func40, Try.ntmps40
          go_wp2_with (first | (go_at_call 47; refine (l00In_any _ _ _ _).mono ?_; rintro e w' ⟨rfl, rfl⟩) | (go_at_call 61; refine (specCharOk_any _ _).mono ?_; rintro e w' ⟨rfl, rfl⟩) | (go_at_call 67; refine (specRange_any _ _).mono ?_; rintro e w' ⟨rfl, rfl⟩) | go_in)
          go_ret2
          exact ⟨rfl, rfl⟩
        · have hf : fsOk 8 n = true := by simp [fsOk, h0, fsVal, fsLo, fsHi, hr, hbig]
          have hn : fsNum 8 n = n - 4294967296 := by simp [fsNum, hf, fsVal, hbig]
          rw [hf, hn]
          clear hf hn
          have e1 : rgLo 8 = -2147483648 := by decide
          have e2 : rgHi 8 = 2147483647 := by decide
          go_enter Try.func40, Try.ntmps40
          go_wp2_with (first | (go_at_call 47; refine (l00In_any _ _ _ _).mono ?_; rintro e w' ⟨rfl, rfl⟩) | (go_at_call 61; refine (specCharOk_any _ _).mono ?_; rintro e w' ⟨rfl, rfl⟩) | (go_at_call 67; refine (specRange_any _ _).mono ?_; rintro e w' ⟨rfl, rfl⟩) | go_in)
          go_ret2
          exact ⟨rfl, rfl⟩
      · skip
        cases hr : inB (n) (-2147483648) 2147483647
        · have hf : fsOk 8 n = false := by simp [fsOk, h0, fsVal, fsLo, fsHi, hr, hbig]
          have hn : fsNum 8 n = 0 := by simp [fsNum, hf]
          rw [hf, hn]
          clear hf hn
          have e1 : rgLo 8 = -2147483648 := by decide
          have e2 : rgHi 8 = 2147483647 := by decide
          go_enter Try.func40, Try.ntmps40
          go_wp2_with (first | (go_at_call 47; refine (l00In_any _ _ _ _).mono ?_; rintro e w' ⟨rfl, rfl⟩) | (go_at_call 61; refine (specCharOk_any _ _).mono ?_; rintro e w' ⟨rfl, rfl⟩) | (go_at_call 67; refine (specRange_any _ _).mono ?_; rintro e w' ⟨rfl, rfl⟩) | go_in)
          go_ret2
          exact ⟨rfl, rfl⟩
        · have hf : fsOk 8 n = true := by simp [fsOk, h0, fsVal, fsLo, fsHi, hr, hbig]
          have hn : fsNum 8 n = n := by simp [fsNum, hf, fsVal, hbig]
          rw [hf, hn]
          clear hf hn
          have e1 : rgLo 8 = -2147483648 := by decide
          have e2 : rgHi 8 = 2147483647 := by decide
          go_enter Try.func40, Try.ntmps40
          go_wp2_with (first | (go_at_call 47; refine (l00In_any _ _ _ _).mono ?_; rintro e w' ⟨rfl, rfl⟩) | (go_at_call 61; refine (specCharOk_any _ _).mono ?_; rintro e w' ⟨rfl, rfl⟩) | (go_at_call 67; refine (specRange_any _ _).mono ?_; rintro e w' ⟨rfl, rfl⟩) | go_in)
          go_ret2
          exact ⟨rfl, rfl⟩
    · have hr : inB n 0 (-1) = false := inB_no.2 (by omega)
      have hf : fsOk 9 n = false := by simp [fsOk, h0, fsVal, fsLo, fsHi, hr]
      have hn : fsNum 9 n = 0 := by simp [fsNum, hf]
      rw [hf, hn]
      clear hf hn
      go_enter Try.func40, Try.ntmps40
      go_wp2_with (first | (go_at_call 47; refine (l00In_any _ _ _ _).mono ?_; rintro e w' ⟨rfl, rfl⟩) | (go_at_call 61; refine (specCharOk_any _ _).mono ?_; rintro e w' ⟨rfl, rfl⟩) | (go_at_call 67; refine (specRange_any _ _).mono ?_; rintro e w' ⟨rfl, rfl⟩) | go_in)
      go_ret2
      exact ⟨rfl, rfl⟩
    · have hm : inB n 0 (-1) = false := inB_no.2 (by omega)
      cases hr : charOk n
      · have hf : fsOk 10 n = false := by simp [fsOk, h0, hr]
        have hn : fsNum 10 n = 0 := by simp [fsNum, hf]
        rw [hf, hn]
        clear hf hn
        go_enter Try.func40, Try.ntmps40
        go_wp2_with (first | (go_at_call 47; refine (l00In_any _ _ _ _).mono ?_; rintro e w' ⟨rfl, rfl⟩) | (go_at_call 61; refine (specCharOk_any _ _).mono ?_; rintro e w' ⟨rfl, rfl⟩) | (go_at_call 67; refine (specRange_any _ _).mono ?_; rintro e w' ⟨rfl, rfl⟩) | go_in)
        go_ret2
        exact ⟨rfl, rfl⟩
      · have hf : fsOk 10 n = true := by simp [fsOk, h0, hr]
        have hn : fsNum 10 n = n := by simp [fsNum, hf, fsVal]
        rw [hf, hn]
        clear hf hn
        go_enter Try.func40, Try.ntmps40
        go_wp2_with (first | (go_at_call 47; refine (l00In_any _ _ _ _).mono ?_; rintro e w' ⟨rfl, rfl⟩) | (go_at_call 61; refine (specCharOk_any _ _).mono ?_; rintro e w' ⟨rfl, rfl⟩) | (go_at_call 67; refine (specRange_any _ _).mono ?_; rintro e w' ⟨rfl, rfl⟩) | go_in)
        go_ret2
        exact ⟨rfl, rfl⟩
    · cases hr : inB n 0 2147483647
      · have hf : fsOk 20 n = false := by simp [fsOk, h0, fsVal, fsLo, fsHi, hr]
        have hn : fsNum 20 n = 0 := by simp [fsNum, hf]
        rw [hf, hn]
        clear hf hn
        go_enter Try.func40, Try.ntmps40
        go_wp2_with (first | (go_at_call 47; refine (l00In_any _ _ _ _).mono ?_; rintro e w' ⟨rfl, rfl⟩) | (go_at_call 61; refine (specCharOk_any _ _).mono ?_; rintro e w' ⟨rfl, rfl⟩) | (go_at_call 67; refine (specRange_any _ _).mono ?_; rintro e w' ⟨rfl, rfl⟩) | go_in)
        go_ret2
        exact ⟨rfl, rfl⟩
      · have hf : fsOk 20 n = true := by simp [fsOk, h0, fsVal, fsLo, fsHi, hr]
        have hn : fsNum 20 n = n := by simp [fsNum, hf, fsVal]
        rw [hf, hn]
        clear hf hn
        go_enter Try.func40, Try.ntmps40
        go_wp2_with (first | (go_at_call 47; refine (l00In_any _ _ _ _).mono ?_; rintro e w' ⟨rfl, rfl⟩) | (go_at_call 61; refine (specCharOk_any _ _).mono ?_; rintro e w' ⟨rfl, rfl⟩) | (go_at_call 67; refine (specRange_any _ _).mono ?_; rintro e w' ⟨rfl, rfl⟩) | go_in)
        go_ret2
        exact ⟨rfl, rfl⟩
    · cases hr : inB n 0 2147483647
      · have hf : fsOk 21 n = false := by simp [fsOk, h0, fsVal, fsLo, fsHi, hr]
        have hn : fsNum 21 n = 0 := by simp [fsNum, hf]
        rw [hf, hn]
        clear hf hn
        go_enter Try.func40, Try.ntmps40
        go_wp2_with (first | (go_at_call 47; refine (l00In_any _ _ _ _).mono ?_; rintro e w' ⟨rfl, rfl⟩) | (go_at_call 61; refine (specCharOk_any _ _).mono ?_; rintro e w' ⟨rfl, rfl⟩) | (go_at_call 67; refine (specRange_any _ _).mono ?_; rintro e w' ⟨rfl, rfl⟩) | go_in)
        go_ret2
        exact ⟨rfl, rfl⟩
      · have hf : fsOk 21 n = true := by simp [fsOk, h0, fsVal, fsLo, fsHi, hr]
        have hn : fsNum 21 n = n := by simp [fsNum, hf, fsVal]
        rw [hf, hn]
        clear hf hn
        go_enter Try.func40, Try.ntmps40
        go_wp2_with (first | (go_at_call 47; refine (l00In_any _ _ _ _).mono ?_; rintro e w' ⟨rfl, rfl⟩) | (go_at_call 61; refine (specCharOk_any _ _).mono ?_; rintro e w' ⟨rfl, rfl⟩) | (go_at_call 67; refine (specRange_any _ _).mono ?_; rintro e w' ⟨rfl, rfl⟩) | go_in)
        go_ret2
        exact ⟨rfl, rfl⟩
    · cases hr : inB n 0 2147483647
      · have hf : fsOk 22 n = false := by simp [fsOk, h0, fsVal, fsLo, fsHi, hr]
        have hn : fsNum 22 n = 0 := by simp [fsNum, hf]
        rw [hf, hn]
        clear hf hn
        go_enter Try.func40, Try.ntmps40
        go_wp2_with (first | (go_at_call 47; refine (l00In_any _ _ _ _).mono ?_; rintro e w' ⟨rfl, rfl⟩) | (go_at_call 61; refine (specCharOk_any _ _).mono ?_; rintro e w' ⟨rfl, rfl⟩) | (go_at_call 67; refine (specRange_any _ _).mono ?_; rintro e w' ⟨rfl, rfl⟩) | go_in)
        go_ret2
        exact ⟨rfl, rfl⟩
      · have hf : fsOk 22 n = true := by simp [fsOk, h0, fsVal, fsLo, fsHi, hr]
        have hn : fsNum 22 n = n := by simp [fsNum, hf, fsVal]
        rw [hf, hn]
        clear hf hn
        go_enter Try.func40, Try.ntmps40
        go_wp2_with (first | (go_at_call 47; refine (l00In_any _ _ _ _).mono ?_; rintro e w' ⟨rfl, rfl⟩) | (go_at_call 61; refine (specCharOk_any _ _).mono ?_; rintro e w' ⟨rfl, rfl⟩) | (go_at_call 67; refine (specRange_any _ _).mono ?_; rintro e w' ⟨rfl, rfl⟩) | go_in)
        go_ret2
        exact ⟨rfl, rfl⟩
    · cases hr : inB n 0 2147483647
      · have hf : fsOk 23 n = false := by simp [fsOk, h0, fsVal, fsLo, fsHi, hr]
        have hn : fsNum 23 n = 0 := by simp [fsNum, hf]
        rw [hf, hn]
        clear hf hn
        go_enter Try.func40, Try.ntmps40
        go_wp2_with (first | (go_at_call 47; refine (l00In_any _ _ _ _).mono ?_; rintro e w' ⟨rfl, rfl⟩) | (go_at_call 61; refine (specCharOk_any _ _).mono ?_; rintro e w' ⟨rfl, rfl⟩) | (go_at_call 67; refine (specRange_any _ _).mono ?_; rintro e w' ⟨rfl, rfl⟩) | go_in)
        go_ret2
        exact ⟨rfl, rfl⟩
      · have hf : fsOk 23 n = true := by simp [fsOk, h0, fsVal, fsLo, fsHi, hr]
        have hn : fsNum 23 n = n := by simp [fsNum, hf, fsVal]
        rw [hf, hn]
        clear hf hn
        go_enter Try.func40, Try.ntmps40
        go_wp2_with (first | (go_at_call 47; refine (l00In_any _ _ _ _).mono ?_; rintro e w' ⟨rfl, rfl⟩) | (go_at_call 61; refine (specCharOk_any _ _).mono ?_; rintro e w' ⟨rfl, rfl⟩) | (go_at_call 67; refine (specRange_any _ _).mono ?_; rintro e w' ⟨rfl, rfl⟩) | go_in)
        go_ret2
        exact ⟨rfl, rfl⟩
    · have hr : inB n 0 (-1) = false := inB_no.2 (by omega)
      have hf : fsOk k n = false := by simp [fsOk, h0, fsVal, fsLo, fsHi, hr, h2, h3, h4, h5, h6, h7, h8, h10, h20, h21, h22, h23]
      have hn : fsNum k n = 0 := by simp [fsNum, hf]
      rw [hf, hn]
      clear hf hn
      go_enter Try.func40, Try.ntmps40
      go_wp2_with (first | (go_at_call 47; refine (l00In_any _ _ _ _).mono ?_; rintro e w' ⟨rfl, rfl⟩) | (go_at_call 61; refine (specCharOk_any _ _).mono ?_; rintro e w' ⟨rfl, rfl⟩) | (go_at_call 67; refine (specRange_any _ _).mono ?_; rintro e w' ⟨rfl, rfl⟩) | go_in)
      go_ret2
      exact ⟨rfl, rfl⟩

set_option maxHeartbeats 1600000 in
theorem implFromSmall_any (k n : Int) (w : World) : Calls Try.prog 41 #[.int .i64 k, .int .i64 n] w fun e w' => e = .returned (.tuple #[.int .i64 (fsNum k n), .bool (fsOk k n)]) ∧ Below w.heap.size w w' := by
  cases h0 : inB n 0 4294967295
  · have hf : fsOk k n = false := by simp [fsOk, h0]
    have hn : fsNum k n = 0 := by simp [fsNum, hf]
    rw [hf, hn]
    clear hf hn
    go_enter Try.func41, Try.ntmps41
    go_wp2_with (first | (go_at_call 58; refine (small_any _ _).mono ?_; rintro e w' ⟨rfl, rfl⟩) | (go_at_call 50; refine (implNumSize0_any _ _).mono ?_; rintro e w' ⟨rfl, rfl⟩) | (go_at_call 48; refine (within_any _ _ _ _).mono ?_; rintro e w' ⟨rfl, rfl⟩) | (go_at_call 63; refine (implCharOk_any _ _).mono ?_; rintro e w' ⟨rfl, rfl⟩) | (go_at_call 75; refine (implRange_any _ _).mono ?_; rintro e w' ⟨rfl, rfl⟩) | go_in)
    go_ret2
    exact ⟨rfl, Below.refl _ _⟩
  · obtain ⟨hb1, hb2⟩ := inB_iff.1 h0
    rcases kind_cases k with rfl | rfl | rfl | rfl | rfl | rfl | rfl | rfl | rfl | rfl | rfl | rfl | rfl | ⟨h2, h3, h4, h5, h6, h7, h8, h9, h10, h20, h21, h22, h23⟩
    · cases hr : inB n 0 1
      · have hf : fsOk 2 n = false := by simp [fsOk, h0, fsVal, fsLo, fsHi, hr]
        have hn : fsNum 2 n = 0 := by simp [fsNum, hf]
        rw [hf, hn]
        clear hf hn
        have hz : (numSz 2 == 0) = false := by decide
        go_enter Try.func41, Try.ntmps41
        go_wp2_with (first | (go_at_call 58; refine (small_any _ _).mono ?_; rintro e w' ⟨rfl, rfl⟩) | (go_at_call 50; refine (implNumSize0_any _ _).mono ?_; rintro e w' ⟨rfl, rfl⟩) | (go_at_call 48; refine (within_any _ _ _ _).mono ?_; rintro e w' ⟨rfl, rfl⟩) | (go_at_call 63; refine (implCharOk_any _ _).mono ?_; rintro e w' ⟨rfl, rfl⟩) | (go_at_call 75; refine (implRange_any _ _).mono ?_; rintro e w' ⟨rfl, rfl⟩) | go_in)
        go_ret2
        exact ⟨rfl, by first | rfl | exact Below.refl _ _ | (repeat (first | exact Below.refl _ _ | refine Below.alloc ?_ (by simp; try omega) _))⟩
      · have hf : fsOk 2 n = true := by simp [fsOk, h0, fsVal, fsLo, fsHi, hr]
        have hn : fsNum 2 n = n := by simp [fsNum, hf, fsVal]
        rw [hf, hn]
        clear hf hn
        have hz : (numSz 2 == 0) = false := by decide
        go_enter Try.func41, Try.ntmps41
        go_wp2_with (first | (go_at_call 58; refine (small_any _ _).mono ?_; rintro e w' ⟨rfl, rfl⟩) | (go_at_call 50; refine (implNumSize0_any _ _).mono ?_; rintro e w' ⟨rfl, rfl⟩) | (go_at_call 48; refine (within_any _ _ _ _).mono ?_; rintro e w' ⟨rfl, rfl⟩) | (go_at_call 63; refine (implCharOk_any _ _).mono ?_; rintro e w' ⟨rfl, rfl⟩) | (go_at_call 75; refine (implRange_any _ _).mono ?_; rintro e w' ⟨rfl, rfl⟩) | go_in)
        go_ret2
        exact ⟨rfl, by first | rfl | exact Below.refl _ _ | (repeat (first | exact Below.refl _ _ | refine Below.alloc ?_ (by simp; try omega) _))⟩
    · cases hr : inB n 0 255
      · have hf : fsOk 3 n = false := by simp [fsOk, h0, fsVal, fsLo, fsHi, hr]
        have hn : fsNum 3 n = 0 := by simp [fsNum, hf]
        rw [hf, hn]
        clear hf hn
        have hz : (numSz 3 == 0) = false := by decide
        have e1 : rgLo 3 = 0 := by decide
        have e2 : rgHi 3 = 255 := by decide
        go_enter Try.func41, Try.ntmps41
        go_wp2_with (first | (go_at_call 58; refine (small_any _ _).mono ?_; rintro e w' ⟨rfl, rfl⟩) | (go_at_call 50; refine (implNumSize0_any _ _).mono ?_; rintro e w' ⟨rfl, rfl⟩) | (go_at_call 48; refine (within_any _ _ _ _).mono ?_; rintro e w' ⟨rfl, rfl⟩) | (go_at_call 63; refine (implCharOk_any _ _).mono ?_; rintro e w' ⟨rfl, rfl⟩) | (go_at_call 75; refine (implRange_any _ _).mono ?_; rintro e w' ⟨rfl, rfl⟩) | go_in)
        go_ret2
        exact ⟨rfl, by first | rfl | exact Below.refl _ _ | (repeat (first | exact Below.refl _ _ | refine Below.alloc ?_ (by simp; try omega) _))⟩
      · have hf : fsOk 3 n = true := by simp [fsOk, h0, fsVal, fsLo, fsHi, hr]
        have hn : fsNum 3 n = n := by simp [fsNum, hf, fsVal]
        rw [hf, hn]
        clear hf hn
        have hz : (numSz 3 == 0) = false := by decide
        have e1 : rgLo 3 = 0 := by decide
        have e2 : rgHi 3 = 255 := by decide
        go_enter Try.func41, Try.ntmps41
        go_wp2_with (first | (go_at_call 58; refine (small_any _ _).mono ?_; rintro e w' ⟨rfl, rfl⟩) | (go_at_call 50; refine (implNumSize0_any _ _).mono ?_; rintro e w' ⟨rfl, rfl⟩) | (go_at_call 48; refine (within_any _ _ _ _).mono ?_; rintro e w' ⟨rfl, rfl⟩) | (go_at_call 63; refine (implCharOk_any _ _).mono ?_; rintro e w' ⟨rfl, rfl⟩) | (go_at_call 75; refine (implRange_any _ _).mono ?_; rintro e w' ⟨rfl, rfl⟩) | go_in)
        go_ret2
        exact ⟨rfl, by first | rfl | exact Below.refl _ _ | (repeat (first | exact Below.refl _ _ | refine Below.alloc ?_ (by simp; try omega) _))⟩
    · by_cases hbig : 2147483647 < n
      · have hw : IntKind.i32.wrap n = n - 4294967296 := by rw [IntKind.wrap_i32]; omega
        cases hr : inB (n - 4294967296) (-128) 127
        · have hf : fsOk 4 n = false := by simp [fsOk, h0, fsVal, fsLo, fsHi, hr, hbig]
          have hn : fsNum 4 n = 0 := by simp [fsNum, hf]
          rw [hf, hn]
          clear hf hn
          have hz : (numSz 4 == 0) = false := by decide
          have e1 : rgLo 4 = -128 := by decide
          have e2 : rgHi 4 = 127 := by decide
          go_enter Try.func41, Try.ntmps41
          go_wp2_with (first | (go_at_call 58; refine (small_any _ _).mono ?_; rintro e w' ⟨rfl, rfl⟩) | (go_at_call 50; refine (implNumSize0_any _ _).mono ?_; rintro e w' ⟨rfl, rfl⟩) | (go_at_call 48; refine (within_any _ _ _ _).mono ?_; rintro e w' ⟨rfl, rfl⟩) | (go_at_call 63; refine (implCharOk_any _ _).mono ?_; rintro e w' ⟨rfl, rfl⟩) | (go_at_call 75; refine (implRange_any _ _).mono ?_; rintro e w' ⟨rfl, rfl⟩) | go_in)
          go_ret2
          exact ⟨rfl, by first | rfl | exact Below.refl _ _ | (repeat (first | exact Below.refl _ _ | refine Below.alloc ?_ (by simp; try omega) _))⟩
        · have hf : fsOk 4 n = true := by simp [fsOk, h0, fsVal, fsLo, fsHi, hr, hbig]
          have hn : fsNum 4 n = n - 4294967296 := by simp [fsNum, hf, fsVal, hbig]
          rw [hf, hn]
          clear hf hn
          have hz : (numSz 4 == 0) = false := by decide
          have e1 : rgLo 4 = -128 := by decide
          have e2 : rgHi 4 = 127 := by decide
          go_enter Try.func41, Try.ntmps41
          go_wp2_with (first | (go_at_call 58; refine (small_any _ _).mono ?_; rintro e w' ⟨rfl, rfl⟩) | (go_at_call 50; refine (implNumSize0_any _ _).mono ?_; rintro e w' ⟨rfl, rfl⟩) | (go_at_call 48; refine (within_any _ _ _ _).mono ?_; rintro e w' ⟨rfl, rfl⟩) | (go_at_call 63; refine (implCharOk_any _ _).mono ?_; rintro e w' ⟨rfl, rfl⟩) | (go_at_call 75; refine (implRange_any _ _).mono ?_; rintro e w' ⟨rfl, rfl⟩) | go_in)
          go_ret2
          exact ⟨rfl, by first | rfl | exact Below.refl _ _ | (repeat (first | exact Below.refl _ _ | refine Below.alloc ?_ (by simp; try omega) _))⟩
      · have hw : IntKind.i32.wrap n = n := by rw [IntKind.wrap_i32]; omega
        cases hr : inB (n) (-128) 127
        · have hf : fsOk 4 n = false := by simp [fsOk, h0, fsVal, fsLo, fsHi, hr, hbig]
          have hn : fsNum 4 n = 0 := by simp [fsNum, hf]
          rw [hf, hn]
          clear hf hn
          have hz : (numSz 4 == 0) = false := by decide
          have e1 : rgLo 4 = -128 := by decide
          have e2 : rgHi 4 = 127 := by decide
          go_enter Try.func41, Try.ntmps41
          go_wp2_with (first | (go_at_call 58; refine (small_any _ _).mono ?_; rintro e w' ⟨rfl, rfl⟩) | (go_at_call 50; refine (implNumSize0_any _ _).mono ?_; rintro e w' ⟨rfl, rfl⟩) | (go_at_call 48; refine (within_any _ _ _ _).mono ?_; rintro e w' ⟨rfl, rfl⟩) | (go_at_call 63; refine (implCharOk_any _ _).mono ?_; rintro e w' ⟨rfl, rfl⟩) | (go_at_call 75; refine (implRange_any _ _).mono ?_; rintro e w' ⟨rfl, rfl⟩) | go_in)
          go_ret2
          exact ⟨rfl, by first | rfl | exact Below.refl _ _ | (repeat (first | exact Below.refl _ _ | refine Below.alloc ?_ (by simp; try omega) _))⟩
        · have hf : fsOk 4 n = true := by simp [fsOk, h0, fsVal, fsLo, fsHi, hr, hbig]
          have hn : fsNum 4 n = n := by simp [fsNum, hf, fsVal, hbig]
          rw [hf, hn]
          clear hf hn
          have hz : (numSz 4 == 0) = false := by decide
          have e1 : rgLo 4 = -128 := by decide
          have e2 : rgHi 4 = 127 := by decide
          go_enter Try.func41, Try.ntmps41
          go_wp2_with (first | (go_at_call 58; refine (small_any _ _).mono ?_; rintro e w' ⟨rfl, rfl⟩) | (go_at_call 50; refine (implNumSize0_any _ _).mono ?_; rintro e w' ⟨rfl, rfl⟩) | (go_at_call 48; refine (within_any _ _ _ _).mono ?_; rintro e w' ⟨rfl, rfl⟩) | (go_at_call 63; refine (implCharOk_any _ _).mono ?_; rintro e w' ⟨rfl, rfl⟩) | (go_at_call 75; refine (implRange_any _ _).mono ?_; rintro e w' ⟨rfl, rfl⟩) | go_in)
          go_ret2
          exact ⟨rfl, by first | rfl | exact Below.refl _ _ | (repeat (first | exact Below.refl _ _ | refine Below.alloc ?_ (by simp; try omega) _))⟩
    · cases hr : inB n 0 65535
      · have hf : fsOk 5 n = false := by simp [fsOk, h0, fsVal, fsLo, fsHi, hr]
        have hn : fsNum 5 n = 0 := by simp [fsNum, hf]
        rw [hf, hn]
        clear hf hn
        have hz : (numSz 5 == 0) = false := by decide
        have e1 : rgLo 5 = 0 := by decide
        have e2 : rgHi 5 = 65535 := by decide
        go_enter Try.func41, Try.ntmps41
        go_wp2_with (first | (go_at_call 58; refine (small_any _ _).mono ?_; rintro e w' ⟨rfl, rfl⟩) | (go_at_call 50; refine (implNumSize0_any _ _).mono ?_; rintro e w' ⟨rfl, rfl⟩) | (go_at_call 48; refine (within_any _ _ _ _).mono ?_; rintro e w' ⟨rfl, rfl⟩) | (go_at_call 63; refine (implCharOk_any _ _).mono ?_; rintro e w' ⟨rfl, rfl⟩) | (go_at_call 75; refine (implRange_any _ _).mono ?_; rintro e w' ⟨rfl, rfl⟩) | go_in)
        go_ret2
        exact ⟨rfl, by first | rfl | exact Below.refl _ _ | (repeat (first | exact Below.refl _ _ | refine Below.alloc ?_ (by simp; try omega) _))⟩
      · have hf : fsOk 5 n = true := by simp [fsOk, h0, fsVal, fsLo, fsHi, hr]
        have hn : fsNum 5 n = n := by simp [fsNum, hf, fsVal]
        rw [hf, hn]
        clear hf hn
        have hz : (numSz 5 == 0) = false := by decide
        have e1 : rgLo 5 = 0 := by decide
        have e2 : rgHi 5 = 65535 := by decide
        go_enter Try.func41, Try.ntmps41
        go_wp2_with (first | (go_at_call 58; refine (small_any _ _).mono ?_; rintro e w' ⟨rfl, rfl⟩) | (go_at_call 50; refine (implNumSize0_any _ _).mono ?_; rintro e w' ⟨rfl, rfl⟩) | (go_at_call 48; refine (within_any _ _ _ _).mono ?_; rintro e w' ⟨rfl, rfl⟩) | (go_at_call 63; refine (implCharOk_any _ _).mono ?_; rintro e w' ⟨rfl, rfl⟩) | (go_at_call 75; refine (implRange_any _ _).mono ?_; rintro e w' ⟨rfl, rfl⟩) | go_in)
        go_ret2
        exact ⟨rfl, by first | rfl | exact Below.refl _ _ | (repeat (first | exact Below.refl _ _ | refine Below.alloc ?_ (by simp; try omega) _))⟩
    · by_cases hbig : 2147483647 < n
      · have hw : IntKind.i32.wrap n = n - 4294967296 := by rw [IntKind.wrap_i32]; omega
        cases hr : inB (n - 4294967296) (-32768) 32767
        · have hf : fsOk 6 n = false := by simp [fsOk, h0, fsVal, fsLo, fsHi, hr, hbig]
          have hn : fsNum 6 n = 0 := by simp [fsNum, hf]
          rw [hf, hn]
          clear hf hn
          have hz : (numSz 6 == 0) = false := by decide
          have e1 : rgLo 6 = -32768 := by decide
          have e2 : rgHi 6 = 32767 := by decide
          go_enter Try.func41, Try.ntmps41
          go_wp2_with (first | (go_at_call 58; refine (small_any _ _).mono ?_; rintro e w' ⟨rfl, rfl⟩) | (go_at_call 50; refine (implNumSize0_any _ _).mono ?_; rintro e w' ⟨rfl, rfl⟩) | (go_at_call 48; refine (within_any _ _ _ _).mono ?_; rintro e w' ⟨rfl, rfl⟩) | (go_at_call 63; refine (implCharOk_any _ _).mono ?_; rintro e w' ⟨rfl, rfl⟩) | (go_at_call 75; refine (implRange_any _ _).mono ?_; rintro e w' ⟨rfl, rfl⟩) | go_in)
          go_ret2
          exact ⟨rfl, by first | rfl | exact Below.refl _ _ | (repeat (first | exact Below.refl _ _ | refine Below.alloc ?_ (by simp; try omega) _))⟩
        · have hf : fsOk 6 n = true := by simp [fsOk, h0, fsVal, fsLo, fsHi, hr, hbig]
          have hn : fsNum 6 n = n - 4294967296 := by simp [fsNum, hf, fsVal, hbig]
          rw [hf, hn]
          clear hf hn
          have hz : (numSz 6 == 0) = false := by decide
          have e1 : rgLo 6 = -32768 := by decide
          have e2 : rgHi 6 = 32767 := by decide
          go_enter Try.func41, Try.ntmps41
          go_wp2_with (first | (go_at_call 58; refine (small_any _ _).mono ?_; rintro e w' ⟨rfl, rfl⟩) | (go_at_call 50; refine (implNumSize0_any _ _).mono ?_; rintro e w' ⟨rfl, rfl⟩) | (go_at_call 48; refine (within_any _ _ _ _).mono ?_; rintro e w' ⟨rfl, rfl⟩) | (go_at_call 63; refine (implCharOk_any _ _).mono ?_; rintro e w' ⟨rfl, rfl⟩) | (go_at_call 75; refine (implRange_any _ _).mono ?_; rintro e w' ⟨rfl, rfl⟩) | go_in)
          go_ret2
          exact ⟨rfl, by first | rfl | exact Below.refl _ _ | (repeat (first | exact Below.refl _ _ | refine Below.alloc ?_ (by simp; try omega) _))⟩
      · have hw : IntKind.i32.wrap n = n := by rw [IntKind.wrap_i32]; omega
        cases hr : inB (n) (-32768) 32767
        · have hf : fsOk 6 n = false := by simp [fsOk, h0, fsVal, fsLo, fsHi, hr, hbig]
          have hn : fsNum 6 n = 0 := by simp [fsNum, hf]
          rw [hf, hn]
          clear hf hn
          have hz : (numSz 6 == 0) = false := by decide
          have e1 : rgLo 6 = -32768 := by decide
          have e2 : rgHi 6 = 32767 := by decide
          go_enter Try.func41, Try.ntmps41
          go_wp2_with (first | (go_at_call 58; refine (small_any _ _).mono ?_; rintro e w' ⟨rfl, rfl⟩) | (go_at_call 50; refine (implNumSize0_any _ _).mono ?_; rintro e w' ⟨rfl, rfl⟩) | (go_at_call 48; refine (within_any _ _ _ _).mono ?_; rintro e w' ⟨rfl, rfl⟩) | (go_at_call 63; refine (implCharOk_any _ _).mono ?_; rintro e w' ⟨rfl, rfl⟩) | (go_at_call 75; refine (implRange_any _ _).mono ?_; rintro e w' ⟨rfl, rfl⟩) | go_in)
          go_ret2
          exact ⟨rfl, by first | rfl | exact Below.refl _ _ | (repeat (first | exact Below.refl _ _ | refine Below.alloc ?_ (by simp; try omega) _))⟩
        · have hf : fsOk 6 n = true := by simp [fsOk, h0, fsVal, fsLo, fsHi, hr, hbig]
          have hn : fsNum 6 n = n := by simp [fsNum, hf, fsVal, hbig]
          rw [hf, hn]
          clear hf hn
          have hz : (numSz 6 == 0) = false := by decide
          have e1 : rgLo 6 = -32768 := by decide
          have e2 : rgHi 6 = 32767 := by decide
          go_enter Try.func41, Try.ntmps41
          go_wp2_with (first | (go_at_call 58; refine (small_any _ _).mono ?_; rintro e w' ⟨rfl, rfl⟩) | (go_at_call 50; refine (implNumSize0_any _ _).mono ?_; rintro e w' ⟨rfl, rfl⟩) | (go_at_call 48; refine (within_any _ _ _ _).mono ?_; rintro e w' ⟨rfl, rfl⟩) | (go_at_call 63; refine (implCharOk_any _ _).mono ?_; rintro e w' ⟨rfl, rfl⟩) | (go_at_call 75; refine (implRange_any _ _).mono ?_; rintro e w' ⟨rfl, rfl⟩) | go_in)
          go_ret2
          exact ⟨rfl, by first | rfl | exact Below.refl _ _ | (repeat (first | exact Below.refl _ _ | refine Below.alloc ?_ (by simp; try omega) _))⟩
    · have hf : fsOk 7 n = true := by simp [fsOk, h0, fsVal, fsLo, fsHi]
      have hn : fsNum 7 n = n := by simp [fsNum, hf, fsVal]
      rw [hf, hn]
      clear hf hn
      have hz : (numSz 7 == 0) = false := by decide
      have e1 : rgLo 7 = 0 := by decide
      have e2 : rgHi 7 = 4294967295 := by decide
      go_enter Try.func41, Try.ntmps41
      go_wp2_with (first | (go_at_call 58; refine (small_any _ _).mono ?_; rintro e w' ⟨rfl, rfl⟩) | (go_at_call 50; refine (implNumSize0_any _ _).mono ?_; rintro e w' ⟨rfl, rfl⟩) | (go_at_call 48; refine (within_any _ _ _ _).mono ?_; rintro e w' ⟨rfl, rfl⟩) | (go_at_call 63; refine (implCharOk_any _ _).mono ?_; rintro e w' ⟨rfl, rfl⟩) | (go_at_call 75; refine (implRange_any _ _).mono ?_; rintro e w' ⟨rfl, rfl⟩) | go_in)
      go_ret2
      exact ⟨rfl, by first | rfl | exact Below.refl _ _ | (repeat (first | exact Below.refl _ _ | refine Below.alloc ?_ (by simp; try omega) _))⟩
    · by_cases hbig : 2147483647 < n
      · have hw : IntKind.i32.wrap n = n - 4294967296 := by rw [IntKind.wrap_i32]; omega
        cases hr : inB (n - 4294967296) (-2147483648) 2147483647
        · have hf : fsOk 8 n = false := by simp [fsOk, h0, fsVal, fsLo, fsHi, hr, hbig]
          have hn : fsNum 8 n = 0 := by simp [fsNum, hf]
          rw [hf, hn]
          clear hf hn
          have hz : (numSz 8 == 0) = false := by decide
          have e1 : rgLo 8 = -2147483648 := by decide
          have e2 : rgHi 8 = 2147483647 := by decide
          go_enter Try.func41, Try.ntmps41
          go_wp2_with (first | (go_at_call 58; refine (small_any _ _).mono ?_; rintro e w' ⟨rfl, rfl⟩) | (go_at_call 50; refine (implNumSize0_any _ _).mono ?_; rintro e w' ⟨rfl, rfl⟩) | (go_at_call 48; refine (within_any _ _ _ _).mono ?_; rintro e w' ⟨rfl, rfl⟩) | (go_at_call 63; refine (implCharOk_any _ _).mono ?_; rintro e w' ⟨rfl, rfl⟩) | (go_at_call 75; refine (implRange_any _ _).mono ?_; rintro e w' ⟨rfl, rfl⟩) | go_in)
          go_ret2
          exact ⟨rfl, by first | rfl | exact Below.refl _ _ | (repeat (first | exact Below.refl _ _ | refine Below.alloc ?_ (by simp; try omega) _))⟩
        · have hf : fsOk 8 n = true := by simp [fsOk, h0, fsVal, fsLo, fsHi, hr, hbig]
          have hn : fsNum 8 n = n - 4294967296 := by simp [fsNum, hf, fsVal, hbig]
          rw [hf, hn]
          clear hf hn
          have hz : (numSz 8 == 0) = false := by decide
          have e1 : rgLo 8 = -2147483648 := by decide
          have e2 : rgHi 8 = 2147483647 := by decide
          go_enter Try.func41, Try.ntmps41
          go_wp2_with (first | (go_at_call 58; refine (small_any _ _).mono ?_; rintro e w' ⟨rfl, rfl⟩) | (go_at_call 50; refine (implNumSize0_any _ _).mono ?_; rintro e w' ⟨rfl, rfl⟩) | (go_at_call 48; refine (within_any _ _ _ _).mono ?_; rintro e w' ⟨rfl, rfl⟩) | (go_at_call 63; refine (implCharOk_any _ _).mono ?_; rintro e w' ⟨rfl, rfl⟩) | (go_at_call 75; refine (implRange_any _ _).mono ?_; rintro e w' ⟨rfl, rfl⟩) | go_in)
          go_ret2
          exact ⟨rfl, by first | rfl | exact Below.refl _ _ | (repeat (first | exact Below.refl _ _ | refine Below.alloc ?_ (by simp; try omega) _))⟩
      · have hw : IntKind.i32.wrap n = n := by rw [IntKind.wrap_i32]; omega
        cases hr : inB (n) (-2147483648) 2147483647
        · have hf : fsOk 8 n = false := by simp [fsOk, h0, fsVal, fsLo, fsHi, hr, hbig]
          have hn : fsNum 8 n = 0 := by simp [fsNum, hf]
          rw [hf, hn]
          clear hf hn
          have hz : (numSz 8 == 0) = false := by decide
          have e1 : rgLo 8 = -2147483648 := by decide
          have e2 : rgHi 8 = 2147483647 := by decide
          go_enter Try.func41, Try.ntmps41
          go_wp2_with (first | (go_at_call 58; refine (small_any _ _).mono ?_; rintro e w' ⟨rfl, rfl⟩) | (go_at_call 50; refine (implNumSize0_any _ _).mono ?_; rintro e w' ⟨rfl, rfl⟩) | (go_at_call 48; refine (within_any _ _ _ _).mono ?_; rintro e w' ⟨rfl, rfl⟩) | (go_at_call 63; refine (implCharOk_any _ _).mono ?_; rintro e w' ⟨rfl, rfl⟩) | (go_at_call 75; refine (implRange_any _ _).mono ?_; rintro e w' ⟨rfl, rfl⟩) | go_in)
          go_ret2
          exact ⟨rfl, by first | rfl | exact Below.refl _ _ | (repeat (first | exact Below.refl _ _ | refine Below.alloc ?_ (by simp; try omega) _))⟩
        · have hf : fsOk 8 n = true := by simp [fsOk, h0, fsVal, fsLo, fsHi, hr, hbig]
          have hn : fsNum 8 n = n := by simp [fsNum, hf, fsVal, hbig]
          rw [hf, hn]
          clear hf hn
          have hz : (numSz 8 == 0) = false := by decide
          have e1 : rgLo 8 = -2147483648 := by decide
          have e2 : rgHi 8 = 2147483647 := by decide
          go_enter Try.func41, Try.ntmps41
          go_wp2_with (first | (go_at_call 58; refine (small_any _ _).mono ?_; rintro e w' ⟨rfl, rfl⟩) | (go_at_call 50; refine (implNumSize0_any _ _).mono ?_; rintro e w' ⟨rfl, rfl⟩) | (go_at_call 48; refine (within_any _ _ _ _).mono ?_; rintro e w' ⟨rfl, rfl⟩) | (go_at_call 63; refine (implCharOk_any _ _).mono ?_; rintro e w' ⟨rfl, rfl⟩) | (go_at_call 75; refine (implRange_any _ _).mono ?_; rintro e w' ⟨rfl, rfl⟩) | go_in)
          go_ret2
          exact ⟨rfl, by first | rfl | exact Below.refl _ _ | (repeat (first | exact Below.refl _ _ | refine Below.alloc ?_ (by simp; try omega) _))⟩
    · have hr : inB n 0 (-1) = false := inB_no.2 (by omega)
      have hf : fsOk 9 n = false := by simp [fsOk, h0, fsVal, fsLo, fsHi, hr]
      have hn : fsNum 9 n = 0 := by simp [fsNum, hf]
      rw [hf, hn]
      clear hf hn
      have hz : (numSz 9 == 0) = false := by decide
      go_enter Try.func41, Try.ntmps41
      go_wp2_with (first | (go_at_call 58; refine (small_any _ _).mono ?_; rintro e w' ⟨rfl, rfl⟩) | (go_at_call 50; refine (implNumSize0_any _ _).mono ?_; rintro e w' ⟨rfl, rfl⟩) | (go_at_call 48; refine (within_any _ _ _ _).mono ?_; rintro e w' ⟨rfl, rfl⟩) | (go_at_call 63; refine (implCharOk_any _ _).mono ?_; rintro e w' ⟨rfl, rfl⟩) | (go_at_call 75; refine (implRange_any _ _).mono ?_; rintro e w' ⟨rfl, rfl⟩) | go_in)
      go_ret2
      exact ⟨rfl, by first | rfl | exact Below.refl _ _ | (repeat (first | exact Below.refl _ _ | refine Below.alloc ?_ (by simp; try omega) _))⟩
    · have hm : inB n 0 (-1) = false := inB_no.2 (by omega)
      cases hr : charOk n
      · have hf : fsOk 10 n = false := by simp [fsOk, h0, hr]
        have hn : fsNum 10 n = 0 := by simp [fsNum, hf]
        rw [hf, hn]
        clear hf hn
        have hz : (numSz 10 == 0) = false := by decide
        go_enter Try.func41, Try.ntmps41
        go_wp2_with (first | (go_at_call 58; refine (small_any _ _).mono ?_; rintro e w' ⟨rfl, rfl⟩) | (go_at_call 50; refine (implNumSize0_any _ _).mono ?_; rintro e w' ⟨rfl, rfl⟩) | (go_at_call 48; refine (within_any _ _ _ _).mono ?_; rintro e w' ⟨rfl, rfl⟩) | (go_at_call 63; refine (implCharOk_any _ _).mono ?_; rintro e w' ⟨rfl, rfl⟩) | (go_at_call 75; refine (implRange_any _ _).mono ?_; rintro e w' ⟨rfl, rfl⟩) | go_in)
        go_ret2
        exact ⟨rfl, by first | rfl | exact Below.refl _ _ | (repeat (first | exact Below.refl _ _ | refine Below.alloc ?_ (by simp; try omega) _))⟩
      · have hf : fsOk 10 n = true := by simp [fsOk, h0, hr]
        have hn : fsNum 10 n = n := by simp [fsNum, hf, fsVal]
        rw [hf, hn]
        clear hf hn
        have hz : (numSz 10 == 0) = false := by decide
        go_enter Try.func41, Try.ntmps41
        go_wp2_with (first | (go_at_call 58; refine (small_any _ _).mono ?_; rintro e w' ⟨rfl, rfl⟩) | (go_at_call 50; refine (implNumSize0_any _ _).mono ?_; rintro e w' ⟨rfl, rfl⟩) | (go_at_call 48; refine (within_any _ _ _ _).mono ?_; rintro e w' ⟨rfl, rfl⟩) | (go_at_call 63; refine (implCharOk_any _ _).mono ?_; rintro e w' ⟨rfl, rfl⟩) | (go_at_call 75; refine (implRange_any _ _).mono ?_; rintro e w' ⟨rfl, rfl⟩) | go_in)
        go_ret2
        exact ⟨rfl, by first | rfl | exact Below.refl _ _ | (repeat (first | exact Below.refl _ _ | refine Below.alloc ?_ (by simp; try omega) _))⟩
    · cases hr : inB n 0 2147483647
      · have hf : fsOk 20 n = false := by simp [fsOk, h0, fsVal, fsLo, fsHi, hr]
        have hn : fsNum 20 n = 0 := by simp [fsNum, hf]
        rw [hf, hn]
        clear hf hn
        have hz : (numSz 20 == 0) = false := by decide
        go_enter Try.func41, Try.ntmps41
        go_wp2_with (first | (go_at_call 58; refine (small_any _ _).mono ?_; rintro e w' ⟨rfl, rfl⟩) | (go_at_call 50; refine (implNumSize0_any _ _).mono ?_; rintro e w' ⟨rfl, rfl⟩) | (go_at_call 48; refine (within_any _ _ _ _).mono ?_; rintro e w' ⟨rfl, rfl⟩) | (go_at_call 63; refine (implCharOk_any _ _).mono ?_; rintro e w' ⟨rfl, rfl⟩) | (go_at_call 75; refine (implRange_any _ _).mono ?_; rintro e w' ⟨rfl, rfl⟩) | go_in)
        go_ret2
        exact ⟨rfl, by first | rfl | exact Below.refl _ _ | (repeat (first | exact Below.refl _ _ | refine Below.alloc ?_ (by simp; try omega) _))⟩
      · have hf : fsOk 20 n = true := by simp [fsOk, h0, fsVal, fsLo, fsHi, hr]
        have hn : fsNum 20 n = n := by simp [fsNum, hf, fsVal]
        rw [hf, hn]
        clear hf hn
        have hz : (numSz 20 == 0) = false := by decide
        go_enter Try.func41, Try.ntmps41
        go_wp2_with (first | (go_at_call 58; refine (small_any _ _).mono ?_; rintro e w' ⟨rfl, rfl⟩) | (go_at_call 50; refine (implNumSize0_any _ _).mono ?_; rintro e w' ⟨rfl, rfl⟩) | (go_at_call 48; refine (within_any _ _ _ _).mono ?_; rintro e w' ⟨rfl, rfl⟩) | (go_at_call 63; refine (implCharOk_any _ _).mono ?_; rintro e w' ⟨rfl, rfl⟩) | (go_at_call 75; refine (implRange_any _ _).mono ?_; rintro e w' ⟨rfl, rfl⟩) | go_in)
        go_ret2
        exact ⟨rfl, by first | rfl | exact Below.refl _ _ | (repeat (first | exact Below.refl _ _ | refine Below.alloc ?_ (by simp; try omega) _))⟩
    · cases hr : inB n 0 2147483647
      · have hf : fsOk 21 n = false := by simp [fsOk, h0, fsVal, fsLo, fsHi, hr]
        have hn : fsNum 21 n = 0 := by simp [fsNum, hf]
        rw [hf, hn]
        clear hf hn
        have hz : (numSz 21 == 0) = false := by decide
        go_enter Try.func41, Try.ntmps41
        go_wp2_with (first | (go_at_call 58; refine (small_any _ _).mono ?_; rintro e w' ⟨rfl, rfl⟩) | (go_at_call 50; refine (implNumSize0_any _ _).mono ?_; rintro e w' ⟨rfl, rfl⟩) | (go_at_call 48; refine (within_any _ _ _ _).mono ?_; rintro e w' ⟨rfl, rfl⟩) | (go_at_call 63; refine (implCharOk_any _ _).mono ?_; rintro e w' ⟨rfl, rfl⟩) | (go_at_call 75; refine (implRange_any _ _).mono ?_; rintro e w' ⟨rfl, rfl⟩) | go_in)
        go_ret2
        exact ⟨rfl, by first | rfl | exact Below.refl _ _ | (repeat (first | exact Below.refl _ _ | refine Below.alloc ?_ (by simp; try omega) _))⟩
      · have hf : fsOk 21 n = true := by simp [fsOk, h0, fsVal, fsLo, fsHi, hr]
        have hn : fsNum 21 n = n := by simp [fsNum, hf, fsVal]
        rw [hf, hn]
        clear hf hn
        have hz : (numSz 21 == 0) = false := by decide
        go_enter Try.func41, Try.ntmps41
        go_wp2_with (first | (go_at_call 58; refine (small_any _ _).mono ?_; rintro e w' ⟨rfl, rfl⟩) | (go_at_call 50; refine (implNumSize0_any _ _).mono ?_; rintro e w' ⟨rfl, rfl⟩) | (go_at_call 48; refine (within_any _ _ _ _).mono ?_; rintro e w' ⟨rfl, rfl⟩) | (go_at_call 63; refine (implCharOk_any _ _).mono ?_; rintro e w' ⟨rfl, rfl⟩) | (go_at_call 75; refine (implRange_any _ _).mono ?_; rintro e w' ⟨rfl, rfl⟩) | go_in)
        go_ret2
        exact ⟨rfl, by first | rfl | exact Below.refl _ _ | (repeat (first | exact Below.refl _ _ | refine Below.alloc ?_ (by simp; try omega) _))⟩
    · cases hr : inB n 0 2147483647
      · have hf : fsOk 22 n = false := by simp [fsOk, h0, fsVal, fsLo, fsHi, hr]
        have hn : fsNum 22 n = 0 := by simp [fsNum, hf]
        rw [hf, hn]
        clear hf hn
        have hz : (numSz 22 == 0) = false := by decide
        go_enter Try.func41, Try.ntmps41
        go_wp2_with (first | (go_at_call 58; refine (small_any _ _).mono ?_; rintro e w' ⟨rfl, rfl⟩) | (go_at_call 50; refine (implNumSize0_any _ _).mono ?_; rintro e w' ⟨rfl, rfl⟩) | (go_at_call 48; refine (within_any _ _ _ _).mono ?_; rintro e w' ⟨rfl, rfl⟩) | (go_at_call 63; refine (implCharOk_any _ _).mono ?_; rintro e w' ⟨rfl, rfl⟩) | (go_at_call 75; refine (implRange_any _ _).mono ?_; rintro e w' ⟨rfl, rfl⟩) | go_in)
        go_ret2
        exact ⟨rfl, by first | rfl | exact Below.refl _ _ | (repeat (first | exact Below.refl _ _ | refine Below.alloc ?_ (by simp; try omega) _))⟩
      · have hf : fsOk 22 n = true := by simp [fsOk, h0, fsVal, fsLo, fsHi, hr]
        have hn : fsNum 22 n = n := by simp [fsNum, hf, fsVal]
        rw [hf, hn]
        clear hf hn
        have hz : (numSz 22 == 0) = false := by decide
        go_enter Try.func41, Try.ntmps41
        go_wp2_with (first | (go_at_call 58; refine (small_any _ _).mono ?_; rintro e w' ⟨rfl, rfl⟩) | (go_at_call 50; refine (implNumSize0_any _ _).mono ?_; rintro e w' ⟨rfl, rfl⟩) | (go_at_call 48; refine (within_any _ _ _ _).mono ?_; rintro e w' ⟨rfl, rfl⟩) | (go_at_call 63; refine (implCharOk_any _ _).mono ?_; rintro e w' ⟨rfl, rfl⟩) | (go_at_call 75; refine (implRange_any _ _).mono ?_; rintro e w' ⟨rfl, rfl⟩) | go_in)
        go_ret2
        exact ⟨rfl, by first | rfl | exact Below.refl _ _ | (repeat (first | exact Below.refl _ _ | refine Below.alloc ?_ (by simp; try omega) _))⟩
    · cases hr : inB n 0 2147483647
      · have hf : fsOk 23 n = false := by simp [fsOk, h0, fsVal, fsLo, fsHi, hr]
        have hn : fsNum 23 n = 0 := by simp [fsNum, hf]
        rw [hf, hn]
        clear hf hn
        have hz : (numSz 23 == 0) = false := by decide
        go_enter Try.func41, Try.ntmps41
        go_wp2_with (first | (go_at_call 58; refine (small_any _ _).mono ?_; rintro e w' ⟨rfl, rfl⟩) | (go_at_call 50; refine (implNumSize0_any _ _).mono ?_; rintro e w' ⟨rfl, rfl⟩) | (go_at_call 48; refine (within_any _ _ _ _).mono ?_; rintro e w' ⟨rfl, rfl⟩) | (go_at_call 63; refine (implCharOk_any _ _).mono ?_; rintro e w' ⟨rfl, rfl⟩) | (go_at_call 75; refine (implRange_any _ _).mono ?_; rintro e w' ⟨rfl, rfl⟩) | go_in)
        go_ret2
        exact ⟨rfl, by first | rfl | exact Below.refl _ _ | (repeat (first | exact Below.refl _ _ | refine Below.alloc ?_ (by simp; try omega) _))⟩
      · have hf : fsOk 23 n = true := by simp [fsOk, h0, fsVal, fsLo, fsHi, hr]
        have hn : fsNum 23 n = n := by simp [fsNum, hf, fsVal]
        rw [hf, hn]
        clear hf hn
        have hz : (numSz 23 == 0) = false := by decide
        go_enter Try.func41, Try.ntmps41
        go_wp2_with (first | (go_at_call 58; refine (small_any _ _).mono ?_; rintro e w' ⟨rfl, rfl⟩) | (go_at_call 50; refine (implNumSize0_any _ _).mono ?_; rintro e w' ⟨rfl, rfl⟩) | (go_at_call 48; refine (within_any _ _ _ _).mono ?_; rintro e w' ⟨rfl, rfl⟩) | (go_at_call 63; refine (implCharOk_any _ _).mono ?_; rintro e w' ⟨rfl, rfl⟩) | (go_at_call 75; refine (implRange_any _ _).mono ?_; rintro e w' ⟨rfl, rfl⟩) | go_in)
        go_ret2
        exact ⟨rfl, by first | rfl | exact Below.refl _ _ | (repeat (first | exact Below.refl _ _ | refine Below.alloc ?_ (by simp; try omega) _))⟩
    · have hr : inB n 0 (-1) = false := inB_no.2 (by omega)
      have hf : fsOk k n = false := by simp [fsOk, h0, fsVal, fsLo, fsHi, hr, h2, h3, h4, h5, h6, h7, h8, h10, h20, h21, h22, h23]
      have hn : fsNum k n = 0 := by simp [fsNum, hf]
      rw [hf, hn]
      clear hf hn
      have hz : (numSz k == 0) = true := by simp [numSz, h2, h3, h4, h5, h6, h7, h8, h9, h10, h20, h21, h22, h23]
      go_enter Try.func41, Try.ntmps41
      go_wp2_with (first | (go_at_call 58; refine (small_any _ _).mono ?_; rintro e w' ⟨rfl, rfl⟩) | (go_at_call 50; refine (implNumSize0_any _ _).mono ?_; rintro e w' ⟨rfl, rfl⟩) | (go_at_call 48; refine (within_any _ _ _ _).mono ?_; rintro e w' ⟨rfl, rfl⟩) | (go_at_call 63; refine (implCharOk_any _ _).mono ?_; rintro e w' ⟨rfl, rfl⟩) | (go_at_call 75; refine (implRange_any _ _).mono ?_; rintro e w' ⟨rfl, rfl⟩) | go_in)
      go_ret2
      exact ⟨rfl, by first | rfl | exact Below.refl _ _ | (repeat (first | exact Below.refl _ _ | refine Below.alloc ?_ (by simp; try omega) _))⟩

theorem walk_FnExactFromSmall (w : World) (k : Int) (wk : (Lit.int .i64 k).wf = true) (n : Int) (wn : (Lit.int .i64 n).wf = true) :
    Calls Try.prog 13 #[.int .i64 k, .int .i64 n] w fun e w' => e = .returned (.bool true) ∧ Below w.heap.size w w' := by
  clear wk wn
  have hne : (fsNum k n != fsNum k n) = false := by simp
  go_enter Try.func13, Try.ntmps13
  go_wp2_with fail
  refine (specFromSmall_any _ _ _).mono ?_
  rintro e w' ⟨rfl, rfl⟩
  go_wp2_with fail
  refine (implFromSmall_any _ _ _).mono ?_
  rintro e w1 ⟨rfl, hb⟩
  go_wp2_with fail
  go_ret
  exact ⟨rfl, hb⟩
end Go.Proofs.Ytoeaihancoglpaa
