/-
  LEB128, in plain Lean; bytes that a call owns as a string.
-/
import Derived.Test.YtlkfaednolmfkaaSmall
import Derived.Test.YtlkfaednolmfkaaBase
import Derived.Test.YtlkfaednolmfkaaByR
import Derived.Laws.BytesArg
import Derived.Laws.Bits128
import Derived.Laws.BitsLemmas
import Derived.Laws.AppendOwnNone
namespace Go.Proofs.Ytlkfaednolmfkaa
open Go.RowKit
set_option linter.unusedVariables false
set_option linter.unusedSimpArgs false
set_option linter.unnecessarySimpa false

def leb (n : Int) : List Int := if h : 127 < n then (n % 128 + 128) :: leb (n / 128) else [n]
termination_by n.toNat
decreasing_by omega
def sleb (n : Int) : List Int := if h : -64 ≤ n ∧ n ≤ 63 then [n % 128] else (n % 128 + 128) :: sleb (n / 128)
termination_by n.natAbs
decreasing_by omega
theorem leb_one {n : Int} (h : n ≤ 127) : leb n = [n] := by rw [leb, dif_neg (by omega)]
theorem leb_more {n : Int} (h : 127 < n) : leb n = (n % 128 + 128) :: leb (n / 128) := by rw [leb, dif_pos h]
theorem sleb_one {n : Int} (h1 : -64 ≤ n) (h2 : n ≤ 63) : sleb n = [n % 128] := by rw [sleb, dif_pos ⟨h1, h2⟩]
theorem sleb_more {n : Int} (h : ¬ (-64 ≤ n ∧ n ≤ 63)) : sleb n = (n % 128 + 128) :: sleb (n / 128) := by rw [sleb, dif_neg h]
theorem sleb_len : ∀ (k : Nat) (n : Int), -(64 * 128 ^ k) ≤ n → n < 64 * 128 ^ k → (sleb n).length ≤ k + 1
  | 0, n, h1, h2 => by rw [sleb_one (by omega) (by omega)]; simp
  | k + 1, n, h1, h2 => by
    by_cases h : -64 ≤ n ∧ n ≤ 63
    · rw [sleb_one h.1 h.2]; simp
    · obtain ⟨p, hp⟩ : ∃ p : Int, p = 64 * 128 ^ k := ⟨_, rfl⟩
      have e : (64 : Int) * 128 ^ (k + 1) = p * 128 := by rw [hp, Int.pow_succ, Int.mul_assoc]
      rw [e] at h1 h2
      have := sleb_len k (n / 128) (by rw [← hp]; omega) (by rw [← hp]; omega)
      rw [sleb_more h, List.length_cons]
      omega
theorem leb_len : ∀ (k : Nat) (n : Int), 0 ≤ n → n < 128 * 128 ^ k → (leb n).length ≤ k + 1
  | 0, n, h1, h2 => by rw [leb_one (by omega)]; simp
  | k + 1, n, h1, h2 => by
    by_cases h : n ≤ 127
    · rw [leb_one h]; simp
    · obtain ⟨p, hp⟩ : ∃ p : Int, p = 128 * 128 ^ k := ⟨_, rfl⟩
      have e : (128 : Int) * 128 ^ (k + 1) = p * 128 := by rw [hp, Int.pow_succ, Int.mul_assoc]
      rw [e] at h2
      have := leb_len k (n / 128) (by omega) (by rw [← hp]; omega)
      rw [leb_more (by omega), List.length_cons]
      omega
theorem sleb_ten {n : Int} (h : (Lit.int .i64 n).wf = true) : (sleb n).length ≤ 10 := by
  have := wf64 h
  exact sleb_len 9 n (by omega) (by omega)
theorem leb_ten {n : Int} (h0 : 0 ≤ n) (h : (Lit.int .i64 n).wf = true) : (leb n).length ≤ 10 := by
  have := wf64 h
  exact leb_len 9 n h0 (by omega)
theorem and255 (n : Int) (h0 : 0 ≤ n) (h1 : n ≤ 9223372036854775807) : bits .and .i64 n 255 = n % 256 := by
  obtain ⟨a, rfl⟩ := Int.eq_ofNat_of_zero_le h0
  have hx : a &&& 255 = a % 256 := Nat.and_two_pow_sub_one_eq_mod a 8
  have hof : ∀ b : Nat, b < 9223372036854775808 → (BitVec.ofInt 64 (b : Int)).toNat = b := fun b hb => by
    rw [BitVec.ofInt_natCast, BitVec.toNat_ofNat]; exact Nat.mod_eq_of_lt (by omega)
  show IntKind.i64.wrap ((BitVec.ofInt 64 (a : Int) &&& BitVec.ofInt 64 ((255 : Nat) : Int)).toNat : Int) = _
  rw [BitVec.toNat_and, hof a (by omega), hof 255 (by omega), IntKind.wrap_i64, hx]
  omega
theorem strNums_app (a b : List Int) : strOfNums a ++ strOfNums b = strOfNums (a ++ b) := by
  simp [strOfNums, ByteArray.ext_iff]
end Go.Proofs.Ytlkfaednolmfkaa

