/-
  Bits joined, as sums. No program in sight.
-/
import Derived.Test.YtlkfaednolmfkaaBase
import Derived.Laws.BitsAllLaws
import Derived.Laws.BitsLemmas
import Derived.Laws.Bits128
import Derived.Laws.Shifts
namespace Go.Proofs.Ytlkfaednolmfkaa
open Go.RowKit
set_option linter.unusedVariables false
set_option linter.unusedSimpArgs false
set_option linter.unnecessarySimpa false

theorem toNat_ofInt64 (b : Int) : (BitVec.ofInt 64 b).toNat = (b % 18446744073709551616).toNat := by
  rw [BitVec.toNat_ofInt]; rfl
theorem or_join {j : Nat} (hj : j ≤ 64) {a b : Int} (h0 : 0 ≤ a) (h1 : a < 2 ^ j) (h64 : a < 18446744073709551616) (hb : b % 2 ^ j = 0) : bits .or .i64 a b = IntKind.i64.wrap (a + b) := by
  have hd : ((2 : Int) ^ j) ∣ 18446744073709551616 := by
    have : (18446744073709551616 : Int) = 2 ^ j * 2 ^ (64 - j) := by rw [← Int.pow_add, Nat.add_sub_cancel' hj]; rfl
    rw [this]; exact Int.dvd_mul_right _ _
  have hm : (b % 18446744073709551616) % 2 ^ j = 0 := by rw [Int.emod_emod_of_dvd _ hd, hb]
  have hm0 := Int.emod_nonneg b (show (18446744073709551616 : Int) ≠ 0 by decide)
  have ha : (BitVec.ofInt 64 a).toNat = a.toNat := by rw [toNat_ofInt64, Int.emod_eq_of_lt h0 h64]
  show IntKind.i64.wrap ((BitVec.ofInt 64 a ||| BitVec.ofInt 64 b).toNat : Int) = _
  rw [BitVec.toNat_or, ha, toNat_ofInt64, Nat.or_comm, nat_join j]
  · rw [IntKind.wrap_i64, IntKind.wrap_i64]
    omega
  · have : (((b % 18446744073709551616).toNat % 2 ^ j : Nat) : Int) = 0 := by
      rw [Int.natCast_emod, Int.toNat_of_nonneg hm0]
      simpa using hm
    omega
  · have : ((a.toNat : Nat) : Int) < ((2 ^ j : Nat) : Int) := by rw [Int.toNat_of_nonneg h0]; simpa using h1
    omega
theorem wrap_dvd {j : Nat} (hj : j ≤ 64) {b : Int} (hb : b % 2 ^ j = 0) : (IntKind.i64.wrap b) % 2 ^ j = 0 := by
  have hd : ((2 : Int) ^ j) ∣ 18446744073709551616 := by
    have : (18446744073709551616 : Int) = 2 ^ j * 2 ^ (64 - j) := by rw [← Int.pow_add, Nat.add_sub_cancel' hj]; rfl
    rw [this]; exact Int.dvd_mul_right _ _
  have h1 : ((2 : Int) ^ j) ∣ b := Int.dvd_of_emod_eq_zero hb
  apply Int.emod_eq_zero_of_dvd
  rw [IntKind.wrap_i64]
  have e : (b + 9223372036854775808) % 18446744073709551616 - 9223372036854775808 = b - 18446744073709551616 * ((b + 9223372036854775808) / 18446744073709551616) := by omega
  rw [e]
  exact Int.dvd_sub h1 (Int.dvd_trans hd (Int.dvd_mul_right _ _))
theorem wrap64_id {n : Int} (h0 : -9223372036854775808 ≤ n) (h1 : n ≤ 9223372036854775807) : wrap64 n = n := by rw [wrap64]; omega
theorem i64_wrap64 (n : Int) : IntKind.i64.wrap n = wrap64 n := by rw [IntKind.wrap_i64, wrap64]
theorem u64_join {j : Nat} {v y : Int} (h0 : 0 ≤ v) (h1 : v < 2 ^ j) (h64 : v < 18446744073709551616) (hy0 : 0 ≤ y) (hy : y < 18446744073709551616) (hm : y % 2 ^ j = 0) : bits .or .u64 v y = v + y := by
  rw [u64_or v y h0 h64 hy0 hy, Nat.or_comm, nat_join j]
  · omega
  · have : ((y.toNat % 2 ^ j : Nat) : Int) = 0 := by
      rw [Int.natCast_emod, Int.toNat_of_nonneg hy0]
      simpa using hm
    omega
  · have : ((v.toNat : Nat) : Int) < ((2 ^ j : Nat) : Int) := by rw [Int.toNat_of_nonneg h0]; simpa using h1
    omega
theorem i64_and255 (n : Int) : bits .and .i64 n 255 = n % 256 := by
  have h255 : (BitVec.ofInt 64 255).toNat = 2 ^ 8 - 1 := by decide
  have key : (BitVec.ofInt 64 n &&& BitVec.ofInt 64 255).toNat = (n % ((2 ^ 64 : Nat) : Int)).toNat % 2 ^ 8 := by
    rw [BitVec.toNat_and, BitVec.toNat_ofInt, h255, Nat.and_two_pow_sub_one_eq_mod]
  show IntKind.i64.wrap ((BitVec.ofInt 64 n &&& BitVec.ofInt 64 255).toNat : Nat) = n % 256
  rw [key, IntKind.wrap_i64]
  omega
theorem i64_and1023 (n : Int) : bits .and .i64 n 1023 = n % 1024 := by
  have h255 : (BitVec.ofInt 64 1023).toNat = 2 ^ 10 - 1 := by decide
  have key : (BitVec.ofInt 64 n &&& BitVec.ofInt 64 1023).toNat = (n % ((2 ^ 64 : Nat) : Int)).toNat % 2 ^ 10 := by
    rw [BitVec.toNat_and, BitVec.toNat_ofInt, h255, Nat.and_two_pow_sub_one_eq_mod]
  show IntKind.i64.wrap ((BitVec.ofInt 64 n &&& BitVec.ofInt 64 1023).toNat : Nat) = n % 1024
  rw [key, IntKind.wrap_i64]
  omega
/-! ### little-endian -/
def v256 : List Int → Int
  | [] => 0
  | b :: r => b + 256 * v256 r
theorem v256_app : ∀ (l r : List Int), v256 (l ++ r) = v256 l + 256 ^ l.length * v256 r
  | [], r => by simp [v256]
  | b :: l, r => by
    rw [List.cons_append, v256, v256, v256_app l r, List.length_cons, Int.pow_succ, Int.mul_add, ← Int.mul_assoc, Int.mul_comm 256 (256 ^ l.length)]
    omega
theorem v256_succ {l : List Int} {k : Nat} {b : Int} (h : l[k]? = some b) : v256 (l.take (k + 1)) = v256 (l.take k) + b * 256 ^ k := by
  have hk := (List.getElem?_eq_some_iff.1 h).1
  rw [List.take_add_one, h, Option.toList_some, v256_app, List.length_take, Nat.min_eq_left (Nat.le_of_lt hk)]
  simp only [v256]
  rw [Int.mul_zero, Int.add_zero, Int.mul_comm]
theorem v256_lt : ∀ {l : List Int}, (∀ x ∈ l, 0 ≤ x ∧ x ≤ 255) → 0 ≤ v256 l ∧ v256 l < 256 ^ l.length
  | [], _ => by simp [v256]
  | b :: l, h => by
    have h1 := h b (by simp)
    have h2 := v256_lt (l := l) fun x hx => h x (by simp [hx])
    rw [v256, List.length_cons, Int.pow_succ]
    omega
def fixB : Nat → Int → List Int
  | 0, _ => []
  | k + 1, n => n % 256 :: fixB k (n / 256)
theorem fixB_len : ∀ (k : Nat) (n : Int), (fixB k n).length = k
  | 0, _ => rfl
  | k + 1, n => by rw [fixB, List.length_cons, fixB_len k]
theorem fixB_byte : ∀ (k : Nat) (n : Int), ∀ x ∈ fixB k n, 0 ≤ x ∧ x ≤ 255
  | 0, n, x, h => by simp [fixB] at h
  | k + 1, n, x, h => by
    rw [fixB] at h
    rcases List.mem_cons.1 h with rfl | h
    · omega
    · exact fixB_byte k _ x h
theorem fixB_val : ∀ (k : Nat) (n : Int), v256 (fixB k n) = n % 256 ^ k
  | 0, n => by simp [fixB, v256, Int.emod_one]
  | k + 1, n => by
    rw [fixB, v256, fixB_val k]
    have h := Int.emod_add_mul_ediv n 256
    have e : (256 : Int) ^ (k + 1) = 256 * 256 ^ k := by rw [Int.pow_succ, Int.mul_comm]
    have hp : (0 : Int) < 256 ^ k := Int.pow_pos (by decide)
    have h2 := Int.emod_add_mul_ediv (n / 256) (256 ^ k)
    have h3 := Int.emod_nonneg (n / 256) (show (256 : Int) ^ k ≠ 0 by omega)
    have h4 := Int.emod_lt_of_pos (n / 256) hp
    rw [e]
    obtain ⟨P, hP⟩ : ∃ P : Int, P = 256 ^ k := ⟨_, rfl⟩
    rw [← hP] at h2 h3 h4 hp ⊢
    obtain ⟨r, hr⟩ : ∃ r, r = n / 256 % P := ⟨_, rfl⟩
    obtain ⟨q, hq⟩ : ∃ q, q = n / 256 / P := ⟨_, rfl⟩
    rw [← hr] at h2 h3 h4 ⊢
    rw [← hq] at h2
    have hn : n = (n % 256 + 256 * r) + (256 * P) * q := by rw [Int.mul_assoc]; omega
    have h5 : (n % 256 + 256 * r + 256 * P * q) % (256 * P) = (n % 256 + 256 * r) % (256 * P) := Int.add_mul_emod_self_left _ _ _
    have h6 : (n % 256 + 256 * r) % (256 * P) = n % 256 + 256 * r := Int.emod_eq_of_lt (by omega) (by omega)
    rw [h6, ← hn] at h5
    exact h5.symm
end Go.Proofs.Ytlkfaednolmfkaa

