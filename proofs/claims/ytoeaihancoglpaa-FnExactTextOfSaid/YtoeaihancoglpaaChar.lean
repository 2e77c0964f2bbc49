/-
  One code point in UTF-8: spec.l04Char (the string), utf8.AppendRune (onto a row of bytes of the call's own).
-/
import Derived.Test.YtoeaihancoglpaaRows
import Derived.Test.YtoeaihancoglpaaBase
import Derived.Test.YtoeaihancoglpaaFromSmall
import Derived.Laws.BytesArg
import Derived.Laws.BitsAllLaws
import Derived.Laws.BitsLemmas
import Derived.Lib.RuneBytes
import Derived.Shelf.Utf8.AppendRune
namespace Go.Proofs.Ytoeaihancoglpaa
open Go.RowKit
set_option linter.unusedVariables false

theorem and63 (n : Int) (h0 : 0 ≤ n) (h1 : n ≤ 9223372036854775807) : bits .and .i64 n 63 = n % 64 := by
  obtain ⟨a, rfl⟩ := Int.eq_ofNat_of_zero_le h0
  have hx : a &&& 63 = a % 64 := Nat.and_two_pow_sub_one_eq_mod a 6
  have hof : ∀ b : Nat, b < 9223372036854775808 → (BitVec.ofInt 64 (b : Int)).toNat = b := fun b hb => by
    rw [BitVec.ofInt_natCast, BitVec.toNat_ofNat]; exact Nat.mod_eq_of_lt (by omega)
  show IntKind.i64.wrap ((BitVec.ofInt 64 (a : Int) &&& BitVec.ofInt 64 ((63 : Nat) : Int)).toNat : Int) = _
  rw [BitVec.toNat_and, hof a (by omega), hof 63 (by omega), IntKind.wrap_i64, hx]
  omega

/-- 'string([]byte{..})' of a literal -/
theorem strLit (w : World) (xs : List Int) (n : Nat) (C : Array Value) (hn : xs.length = n) (hC : C = (xs.map (Value.int .u8)).toArray) :
    (convert 57 9 (.slice (some ⟨w.heap.size, 0, none⟩) n n)).run Try.prog (w.alloc (.cells C 5)) = .ok (.string (strOfNums xs)) (w.alloc (.cells C 5)) := by
  subst hC
  refine run_convert_bytes_arg _ _ _ Try.underlying57 Try.underlying5 _ 0 n n xs hn (fun i hi => ?_) _ Try.underlying9
  refine (Blk.cell (Blk.new w 5 _) (0 + i)).trans ?_
  have : i < xs.length := by omega
  simp [this]

theorem charOk_rune {n : Int} (h : charOk n = true) : (0 ≤ n ∧ n ≤ 55295) ∨ (57344 ≤ n ∧ n ≤ 1114111) := by
  simp only [charOk, Bool.or_eq_true, inB_iff] at h
  exact h

theorem l04Char_any (n : Int) (h : charOk n = true) (w : World) :
    Calls Try.prog 62 #[.int .i64 n] w fun e w' => e = .returned (.string (strOfNums (Lib.encodeRuneZ n))) ∧ Below w.heap.size w w' := by
  have hr := charOk_rune h
  clear h
  by_cases h1 : n < 128
  · rw [Lib.encodeRuneZ_one (by omega) (by omega)]
    have k1 := strLit w [n] 1 #[.int .u8 n] rfl rfl
    have e1 : IntKind.u8.wrap n = n := by rw [IntKind.wrap_u8]; omega
    clear hr
    go_enter Try.func62, Try.ntmps62
    go_wp2_with fail
    go_ret
    exact ⟨rfl, (Below.refl _ _).alloc (Nat.le_refl _) _⟩
  by_cases h2 : n < 2048
  · rw [Lib.encodeRuneZ_two (by omega) (by omega)]
    have k1 := strLit w [192 + n / 64, 128 + n % 64] 2 #[.int .u8 (192 + n / 64), .int .u8 (128 + n % 64)] rfl rfl
    have a1 := and63 n (by omega) (by omega)
    go_enter Try.func62, Try.ntmps62
    go_wp2_with fail
    go_ret
    exact ⟨rfl, (Below.refl _ _).alloc (Nat.le_refl _) _⟩
  by_cases h3 : n < 65536
  · rw [Lib.encodeRuneZ_three (by omega)]
    have k1 := strLit w [224 + n / 4096, 128 + n / 64 % 64, 128 + n % 64] 3 #[.int .u8 (224 + n / 4096), .int .u8 (128 + n / 64 % 64), .int .u8 (128 + n % 64)] rfl rfl
    have a1 := and63 n (by omega) (by omega)
    have a2 := and63 (n / 64) (by omega) (by omega)
    go_enter Try.func62, Try.ntmps62
    go_wp2_with fail
    go_ret
    exact ⟨rfl, (Below.refl _ _).alloc (Nat.le_refl _) _⟩
  · rw [Lib.encodeRuneZ_four (by omega) (by omega)]
    have k1 := strLit w [240 + n / 262144, 128 + n / 4096 % 64, 128 + n / 64 % 64, 128 + n % 64] 4 #[.int .u8 (240 + n / 262144), .int .u8 (128 + n / 4096 % 64), .int .u8 (128 + n / 64 % 64), .int .u8 (128 + n % 64)] rfl rfl
    have a1 := and63 n (by omega) (by omega)
    have a2 := and63 (n / 64) (by omega) (by omega)
    have a3 := and63 (n / 4096) (by omega) (by omega)
    go_enter Try.func62, Try.ntmps62
    go_wp2_with fail
    go_ret
    exact ⟨rfl, (Below.refl _ _).alloc (Nat.le_refl _) _⟩

def ru_ren : Go.Shelf.Ren := ⟨fun | 242 => 64 | 278 => 76 | n => n, fun | 4 => 4 | 5 => 5 | 21 => 21 | 37 => 57 | 46 => 78 | 51 => 59 | n => n, fun n => n⟩
theorem ru_lays : Lays.n242 Try.prog ru_ren :=
  { mixed := by kernel_rfl
    f242 := Try.func64.trans (congrArg some (by kernel_rfl))
    f278 := Try.func76.trans (congrArg some (by kernel_rfl))
    t4 := Try.underlying4
    a4 := Try.isAgg4
    z4 := Try.sizeOf4
    v4 := Try.zeroValue4
    t5 := Try.underlying5
    a5 := Try.isAgg5
    z5 := Try.sizeOf5
    v5 := Try.zeroValue5
    t21 := Try.underlying21
    a21 := Try.isAgg21
    z21 := Try.sizeOf21
    v21 := Try.zeroValue21
    t37 := Try.underlying57
    a37 := Try.isAgg57
    z37 := Try.sizeOf57
    v37 := Try.zeroValue57
    t46 := Try.underlying78
    a46 := Try.isAgg78
    z46 := Try.sizeOf78
    v46 := Try.zeroValue78
    t51 := Try.underlying59
    a51 := Try.isAgg59
    z51 := Try.sizeOf59
    v51 := Try.zeroValue59 }

theorem appendRune_any (B : Nat) (v : Value) (n : Nat) (xs : List Value) (r : Int) (hr0 : -2147483648 ≤ r) (hr1 : r ≤ 2147483647) (w : World) (hown : w.ownsRowF B 5 1 v n xs) (hlen : n + 4 ≤ 140737488355328) (hBw : B ≤ w.heap.size) :
    Calls Try.prog 64 #[v, .int .i32 r] w fun e w' => ∃ v', e = .returned v' ∧ w'.ownsRowF B 5 1 v' (n + (Lib.runeCells r).length) (xs ++ Lib.runeCells r) ∧ ∃ o, (w.alloc o).grownBy w' v.ownBlock :=
  Any.utf8_AppendRune_row ru_lays (by kernel_rfl) B v n xs r hr0 hr1 w hown hlen hBw
end Go.Proofs.Ytoeaihancoglpaa
