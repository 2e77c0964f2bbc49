/-
  laws.markText returns the mark's text.
-/
import Derived.Test.YtlkfaednolmfkaaRows
import Derived.Test.YtlkfaednolmfkaaLaw
import Derived.Laws.BytesArg
namespace Go.Proofs.Ytlkfaednolmfkaa
open Go.RowKit
set_option linter.unusedVariables false
set_option linter.unusedSimpArgs false
set_option linter.unnecessarySimpa false

/-- 'string([]byte{..})' of a literal -/
theorem strLitM (w : World) (xs : List Int) (n : Nat) (C : Array Value) (hn : xs.length = n) (hC : C = (xs.map (Value.int .u8)).toArray) :
    (convert 28 9 (.slice (some ⟨w.heap.size, 0, none⟩) n n)).run Try.prog (w.alloc (.cells C 5)) = .ok (.string (strOfNums xs)) (w.alloc (.cells C 5)) := by
  subst hC
  refine run_convert_bytes_arg _ _ _ Try.underlying28 Try.underlying5 _ 0 n n xs hn (fun i hi => ?_) _ Try.underlying9
  refine (Blk.cell (Blk.new w 5 _) (0 + i)).trans ?_
  have : i < xs.length := by omega
  simp [this]
theorem strNums_app (a b : List Int) : strOfNums a ++ strOfNums b = strOfNums (a ++ b) := by
  apply ByteArray.ext
  simp [strOfNums, ByteArray.data_append]
theorem strNums_sz (a : List Int) : (strOfNums a).size = a.length := by simp [strOfNums, ByteArray.size]

set_option maxHeartbeats 800000 in
theorem markText_any (k : Int) (w : World) (h0 : 0 ≤ k) (h1 : k ≤ 1099511627776) :
    Calls Try.prog 52 #[.int .i64 k] w fun e w' => e = .returned (.string (markT k)) ∧ Below w.heap.size w w' := by
  by_cases hk : k ≤ 0
  · have HK : Hid (markT k = strOfNums [109, 48]) := by show _ = _; rw [markT, if_pos hk]
    go_enter Try.func52, Try.ntmps52
    go_wp2_with fail
    go_ret
    exact ⟨ret_str HK.out.symm, Below.refl _ _⟩
  · obtain ⟨n, rfl⟩ := Int.eq_ofNat_of_zero_le h0
    have HK : Hid (markT (n : Int) = strOfNums (109 :: digT n [])) := by show _ = _; rw [markT, if_neg hk]; rfl
    have hn : 0 < n := by omega
    have hn1 : n ≤ 1099511627776 := by omega
    clear h0 h1
    go_enter Try.func52, Try.ntmps52
    go_wp2_with fail
    go_loopw [0, 3] (fun kk o wr => ∃ (m : Nat) (l : List Int), kk = .int .i64 m ∧ o = .string (strOfNums l) ∧ Hid (digT m l = digT n []) ∧ l.length + m ≤ n ∧ Below w.heap.size w wr) (fun kk _ _ => (intOf kk).toNat)
    case atStart => exact ⟨n, [], rfl, rfl, Lib.hid rfl, by simp, Below.refl _ _⟩
    case round =>
      obtain ⟨m, l, rfl, rfl, HD, hl, hb⟩ := hrel
      have hsz := strNums_sz l
      have HZ := Lib.hid hsz
      by_cases hm : 0 < m
      · have k1 := strLitM wr [48 + (m : Int) % 10] 1 #[.int .u8 (48 + (m : Int) % 10)] rfl rfl
        have e1 : IntKind.u8.wrap (48 + (m : Int) % 10) = 48 + (m : Int) % 10 := by rw [IntKind.wrap_u8]; omega
        have hs1 : (strOfNums [48 + (m : Int) % 10]).size ≤ 4 := by rw [strNums_sz]; simp
        have hs2 : (strOfNums l).size ≤ 1099511627776 := by rw [strNums_sz]; omega
        clear hsz
        go_wp2_with fail
        go_roundw
        case rel => exact ⟨m / 10, (48 + (m : Int) % 10) :: l, by go_num, by rw [strNums_app]; rfl, Lib.hid (by rw [← HD.out, digT_step hm l]; simp), by simp; omega, (hb.alloc hb.size _)⟩
        case measure => simp [intOf]; omega
      · have hm0 : m = 0 := by omega
        subst hm0
        have hs2 : (strOfNums l).size ≤ 1099511627776 := by rw [strNums_sz]; omega
        clear hsz
        go_wp2_with fail
        go_ret
        refine ⟨ret_str ?_, hb⟩
        rw [HK.out, ← HD.out, digT_zero, show (109 : Int) :: l = [109] ++ l from rfl, ← strNums_app]
        rfl
end Go.Proofs.Ytlkfaednolmfkaa
