/-
  PutFix, GetFix of both packages (by program: gen_fix.py).
-/
import Derived.Test.YtlkfaednolmfkaaByR
import Derived.Test.YtlkfaednolmfkaaByt
import Derived.Test.YtlkfaednolmfkaaBit
import Derived.Test.YtlkfaednolmfkaaSmall
import Derived.Laws.Shifts
import Derived.Laws.Concat
namespace Go.Proofs.Ytlkfaednolmfkaa
open Go.RowKit
set_option linter.unusedVariables false
set_option linter.unusedSimpArgs false
set_option linter.unnecessarySimpa false
set_option maxRecDepth 16000

theorem pow256 (k : Nat) : (256 : Int) ^ k = 2 ^ (8 * k) := by rw [Int.pow_mul]; rfl
theorem pow256_le {k : Nat} (hk : k ≤ 7) : (256 : Int) ^ k ≤ 72057594037927936 := by
  have : (256 : Int) ^ k ≤ 256 ^ 7 := by exact_mod_cast Nat.pow_le_pow_right (show 0 < 256 by decide) hk
  have e : (256 : Int) ^ 7 = 72057594037927936 := by decide
  omega
theorem v256_take {s : ByteArray} (k : Nat) (hk : k ≤ s.size) : 0 ≤ v256 ((byt s).take k) ∧ v256 ((byt s).take k) < 256 ^ k := by
  have := v256_lt (l := (byt s).take k) fun x hx => byt_mem (List.mem_of_mem_take hx)
  rwa [List.length_take, byt_length, Nat.min_eq_left hk] at this
theorem fix_bits {s : ByteArray} {k b : Nat} (hk : k ≤ 7) (hb : b < 256) (h : (byt s)[k]? = some (b : Int)) {v : Int} (hv : v = wrap64 (v256 ((byt s).take k))) :
    bits .or .i64 v (wrap64 (wrap64 (b : Int) * 2 ^ (8 * k))) = wrap64 (v256 ((byt s).take (k + 1))) ∧ bits .or .i64 v (wrap64 ((b : Int) * 2 ^ (8 * k))) = wrap64 (v256 ((byt s).take (k + 1))) := by
  have hl := (List.getElem?_eq_some_iff.1 h).1
  rw [byt_length] at hl
  obtain ⟨h0, h1⟩ := v256_take (s := s) k (by omega)
  have hp := pow256_le hk
  rw [wrap64_id (by omega) (by omega)] at hv
  have hb64 : wrap64 (b : Int) = b := wrap64_id (by omega) (by omega)
  have key : bits .or .i64 v (wrap64 ((b : Int) * 2 ^ (8 * k))) = wrap64 (v256 ((byt s).take (k + 1))) := by
    rw [v256_succ h, ← pow256, ← hv]
    have hm : ((b : Int) * 256 ^ k) % 2 ^ (8 * k) = 0 := by rw [← pow256]; exact Int.mul_emod_left _ _
    have hw := wrap_dvd (j := 8 * k) (by omega) hm
    have := or_join (j := 8 * k) (by omega) (a := v) (by omega) (by rw [← pow256]; omega) (by omega) hw
    rw [← i64_wrap64, this, ← i64_wrap64, IntKind.wrap_i64, IntKind.wrap_i64, IntKind.wrap_i64]
    omega
  exact ⟨by rw [hb64]; exact key, key⟩
theorem fix_bitsU {s : ByteArray} {k b : Nat} (hk : k ≤ 7) (hb : b < 256) (h : (byt s)[k]? = some (b : Int)) {v : Int} (hv : v = v256 ((byt s).take k)) :
    bits .or .u64 v (IntKind.u64.wrap (IntKind.u64.wrap (b : Int) * 2 ^ (8 * k))) = v256 ((byt s).take (k + 1)) ∧ bits .or .u64 v (IntKind.u64.wrap ((b : Int) * 2 ^ (8 * k))) = v256 ((byt s).take (k + 1)) := by
  have hl := (List.getElem?_eq_some_iff.1 h).1
  rw [byt_length] at hl
  obtain ⟨h0, h1⟩ := v256_take (s := s) k (by omega)
  have hp := pow256_le hk
  have hq : (0 : Int) < 256 ^ k := Int.pow_pos (by decide)
  have hbw : IntKind.u64.wrap (b : Int) = b := by rw [IntKind.wrap_u64]; omega
  have hmul : (b : Int) * 256 ^ k ≤ 255 * 256 ^ k := Int.mul_le_mul_of_nonneg_right (by omega) (by omega)
  have hmul0 : 0 ≤ (b : Int) * 256 ^ k := Int.mul_nonneg (by omega) (by omega)
  have key : bits .or .u64 v (IntKind.u64.wrap ((b : Int) * 2 ^ (8 * k))) = v256 ((byt s).take (k + 1)) := by
    rw [v256_succ h, ← pow256, ← hv]
    have hm : ((b : Int) * 256 ^ k) % 2 ^ (8 * k) = 0 := by rw [← pow256]; exact Int.mul_emod_left _ _
    have hw : IntKind.u64.wrap ((b : Int) * 256 ^ k) = (b : Int) * 256 ^ k := by rw [IntKind.wrap_u64]; omega
    rw [hw]
    exact u64_join (j := 8 * k) (by omega) (by rw [← pow256]; omega) (by omega) hmul0 (by omega) hm
  exact ⟨by rw [hbw]; exact key, key⟩
theorem wrapU {v x : Int} (h : v = x) : IntKind.i64.wrap v = wrap64 x := by rw [h, i64_wrap64]

set_option maxHeartbeats 1600000 in
theorem specPutFix_any (n0 : Int) (m : Nat) (hm : m ≤ 8) (h1 : -9223372036854775808 ≤ n0) (h2 : n0 ≤ 9223372036854775807) (w : World) : Calls Try.prog 61 #[.int .i64 n0, .int .i64 m] w fun e w' => e = .returned (.string (strOfNums (fixB m n0))) ∧ Below w.heap.size w w' := by
  obtain ⟨i0, hi, hz0, hz1, hz2⟩ := info_parts byte_info
  have ho0 : (w.alloc (.cells #[] 5)).ownsRow w.heap.size 5 1 (.slice (some ⟨w.heap.size, 0, none⟩) 0 0) 0 (bytesV []) := World.ownsRow_made w #[] 0 (Nat.le_refl _) (by simp) (by simp)
  have hb0 : Below w.heap.size w (w.alloc (.cells #[] 5)) := (Below.refl _ _).alloc (Nat.le_refl _) _
  obtain ⟨L, hL⟩ : ∃ L, L = fixB m n0 := ⟨_, rfl⟩
  rw [← hL]
  have HL := Lib.hid hL
  clear hL
  go_enter Try.func61, Try.ntmps61
  go_wp2_with fail
  go_loopw [0, 5, 6] (fun n b i wr => ∃ (u : Value) (k : Nat) (acc : List Int) (x : Int), u = b ∧ n = .int .i64 x ∧ i = .int .i64 k ∧ k ≤ m ∧ -9223372036854775808 ≤ x ∧ x ≤ 9223372036854775807 ∧ Hid (acc ++ fixB (m - k) x = L) ∧ wr.ownsRow w.heap.size 5 1 u k (bytesV acc) ∧ Below w.heap.size w wr) (fun _ _ i _ => m - (intOf i).toNat)
  case atStart => exact ⟨_, 0, [], n0, rfl, rfl, rfl, Nat.zero_le _, h1, h2, Lib.hid HL.out.symm, ho0, hb0⟩
  case round =>
    clear ho0 hb0
    obtain ⟨u, k, acc, x, rfl, rfl, rfl, hk, hx1, hx2, HA, hown, hbr⟩ := hrel
    have hsz := hbr.size
    obtain ⟨uA, uN, uC, rfl, _⟩ := (Own.of_own hown).form
    have hin : inB (m : Int) 0 8 = true := inB_yes (by omega) (by omega)
    by_cases hlt : k < m
    case neg =>
      have hkm : k = m := by omega
      subst hkm
      have HA2 : Hid (acc = L) := by show _ = _; have := HA.out; rw [Nat.sub_self, fixB, List.append_nil] at this; exact this
      have hun : uN = k := owns_n hown
      subst hun
      have hstr := str_bytes (zs := acc) hown
      go_wp2_with fail
      go_ret
      exact ⟨ret_str (by rw [HA2.out]), hbr⟩
    have HA2 : Hid ((acc ++ [x % 256]) ++ fixB (m - (k + 1)) (x / 256) = L) := by
      show _ = _
      rw [← HA.out, show m - k = (m - (k + 1)) + 1 by omega, fixB, List.append_assoc]; rfl
    have hs1 := hown.alloc (.cells #[Value.int .u8 (x % 256)] 5)
    have hc1 := cell_one_new wr (Value.int .u8 (x % 256)) 5
    have hB2 : Below w.heap.size w (wr.alloc (.cells #[Value.int .u8 (x % 256)] 5)) := hbr.alloc hsz _
    clear hown
    have a1 := i64_and255 x
    have a3 : IntKind.u8.wrap (x % 256) = x % 256 := by rw [IntKind.wrap_u8]; omega
    go_wp2_with (first | (go_at_call 79; refine (l00In_any _ _ _ _).mono ?_; rintro e w' ⟨rfl, rfl⟩) | (at_builtin; refine wpList_append_own _ rfl _ _ 28 rfl w.heap.size 5 i0 (.int .u8 0) 1 1 Try.underlying28 hi hz0 hz1 hz2 rfl (by decide) _ _ _ rfl hs1 ⟨wr.heap.size, 0, none⟩ 1 1 [_] rfl rfl hc1 (one_byte _) (by simp only [maxLen]; omega) (by omega) hB2.size ?_; intro v' w3 hown' hgrow _))
    have hB3 := hB2.grown hgrow hB2.size (fun g hg => (hs1.lt g hg).1)
    go_roundw
    case rel => exact ⟨_, k + 1, acc ++ [x % 256], x / 256, rfl, by first | rfl | go_num, by go_num, by omega, by omega, by omega, HA2, by rw [bytesV_append]; exact hown', hB3⟩
    case measure => simp [intOf]; omega
set_option maxHeartbeats 1600000 in
theorem implPutFixI_any (n0 : Int) (m : Nat) (hm : m ≤ 8) (h1 : -9223372036854775808 ≤ n0) (h2 : n0 ≤ 9223372036854775807) (w : World) : Calls Try.prog 48 #[.int .i64 n0, .int .i64 m] w fun e w' => e = .returned (.string (strOfNums (fixB m n0))) ∧ Below w.heap.size w w' := by
  obtain ⟨i0, hi, hz0, hz1, hz2⟩ := info_parts byte_info
  have ho0 : (w.alloc (.cells #[] 5)).ownsRow w.heap.size 5 1 (.slice (some ⟨w.heap.size, 0, none⟩) 0 0) 0 (bytesV []) := World.ownsRow_made w #[] 0 (Nat.le_refl _) (by simp) (by simp)
  have hb0 : Below w.heap.size w (w.alloc (.cells #[] 5)) := (Below.refl _ _).alloc (Nat.le_refl _) _
  obtain ⟨L, hL⟩ : ∃ L, L = fixB m n0 := ⟨_, rfl⟩
  rw [← hL]
  have HL := Lib.hid hL
  clear hL
  go_enter Try.func48, Try.ntmps48
  go_wp2_with fail
  go_loopw [0, 5, 8] (fun n b i wr => ∃ (u : Value) (k : Nat) (acc : List Int) (x : Int), u = b ∧ n = .int .i64 x ∧ i = .int .i64 k ∧ k ≤ m ∧ -9223372036854775808 ≤ x ∧ x ≤ 9223372036854775807 ∧ Hid (acc ++ fixB (m - k) x = L) ∧ wr.ownsRow w.heap.size 5 1 u k (bytesV acc) ∧ Below w.heap.size w wr) (fun _ _ i _ => m - (intOf i).toNat)
  case atStart => exact ⟨_, 0, [], n0, rfl, rfl, rfl, Nat.zero_le _, h1, h2, Lib.hid HL.out.symm, ho0, hb0⟩
  case round =>
    clear ho0 hb0
    obtain ⟨u, k, acc, x, rfl, rfl, rfl, hk, hx1, hx2, HA, hown, hbr⟩ := hrel
    have hsz := hbr.size
    obtain ⟨uA, uN, uC, rfl, _⟩ := (Own.of_own hown).form
    by_cases hlt : k < m
    case neg =>
      have hkm : k = m := by omega
      subst hkm
      have HA2 : Hid (acc = L) := by show _ = _; have := HA.out; rw [Nat.sub_self, fixB, List.append_nil] at this; exact this
      have hun : uN = k := owns_n hown
      subst hun
      have hstr := str_bytes (zs := acc) hown
      go_wp2_with fail
      go_ret
      exact ⟨ret_str (by rw [HA2.out]), hbr⟩
    have HA2 : Hid ((acc ++ [x % 256]) ++ fixB (m - (k + 1)) (x / 256) = L) := by
      show _ = _
      rw [← HA.out, show m - k = (m - (k + 1)) + 1 by omega, fixB, List.append_assoc]; rfl
    have hs1 := hown.alloc (.cells #[Value.int .u8 (x % 256)] 5)
    have hc1 := cell_one_new wr (Value.int .u8 (x % 256)) 5
    have hB2 : Below w.heap.size w (wr.alloc (.cells #[Value.int .u8 (x % 256)] 5)) := hbr.alloc hsz _
    clear hown
    have a3 : IntKind.u8.wrap x = x % 256 := by rw [IntKind.wrap_u8]
    go_wp2_with (first | (at_builtin; refine wpList_append_own _ rfl _ _ 28 rfl w.heap.size 5 i0 (.int .u8 0) 1 1 Try.underlying28 hi hz0 hz1 hz2 rfl (by decide) _ _ _ rfl hs1 ⟨wr.heap.size, 0, none⟩ 1 1 [_] rfl rfl hc1 (one_byte _) (by simp only [maxLen]; omega) (by omega) hB2.size ?_; intro v' w3 hown' hgrow _))
    have hB3 := hB2.grown hgrow hB2.size (fun g hg => (hs1.lt g hg).1)
    go_roundw
    case rel => exact ⟨_, k + 1, acc ++ [x % 256], x / 256, rfl, by first | rfl | go_num, by go_num, by omega, by omega, by omega, HA2, by rw [bytesV_append]; exact hown', hB3⟩
    case measure => simp [intOf]; omega
theorem implPutFix_any (n0 : Int) (m : Nat) (hm : m ≤ 8) (h1 : -9223372036854775808 ≤ n0) (h2 : n0 ≤ 9223372036854775807) (w : World) : Calls Try.prog 23 #[.int .i64 n0, .int .i64 m] w fun e w' => e = .returned (.string (strOfNums (fixB m n0))) ∧ Below w.heap.size w w' := by
  have hin : inB (m : Int) 0 8 = true := inB_yes (by omega) (by omega)
  have HP := Lib.hid (implPutFixI_any n0 m hm h1 h2 w)
  go_enter Try.func23, Try.ntmps23
  go_wp2_with (first | (go_at_call 39; refine (within_any _ _ _ _).mono ?_; rintro e w' ⟨rfl, rfl⟩))
  refine HP.out.mono ?_
  rintro e w1 ⟨rfl, hb1⟩
  go_wp2_with fail
  go_ret
  exact ⟨rfl, hb1⟩
set_option maxHeartbeats 1600000 in
theorem implGetFix_any (s : ByteArray) (hs : s.size ≤ 8) (w : World) : Calls Try.prog 22 #[.string s] w fun e w' => e = .returned (.int .i64 (wrap64 (v256 (byt s)))) ∧ w = w' := by
  go_enter Try.func22, Try.ntmps22
  go_wp2_with fail
  go_loop [3, 10] (fun n i => ∃ (k : Nat) (v : Int), k ≤ s.size ∧ i = .int .i64 k ∧ n = .int .u64 v ∧ Hid (v = v256 ((byt s).take k))) (fun _ i => 8 - (intOf i).toNat)
  case atStart => exact ⟨0, 0, Nat.zero_le _, rfl, rfl, Lib.hid rfl⟩
  case round =>
    obtain ⟨k, v, hk, rfl, rfl, HV⟩ := hrel
    by_cases hlt : k < s.size
    case neg =>
      have hks : k = s.size := by omega
      have HV2 : Hid (v = v256 (byt s)) := by show _ = _; rw [HV.out, hks, List.take_of_length_le (by simp)]
      subst hks
      have hw := wrapU HV2.out
      go_wp2_with fail
      go_ret
      exact ⟨ret_int (by first | exact HV2.out | (rw [HV2.out]) | (simp only [HV2.out, i64_wrap64])), rfl⟩
    have hb := byt_get hlt
    have hb255 : s[k].toNat < 256 := s[k].toNat_lt
    obtain ⟨hst1, hst2⟩ := fix_bitsU (by omega) hb255 hb HV.out
    obtain ⟨nv, hnv⟩ : ∃ nv, nv = v256 ((byt s).take (k + 1)) := ⟨_, rfl⟩
    rw [← hnv] at hst1 hst2
    have HN := Lib.hid hnv
    clear hnv hb
    go_wp2_with fail
    go_round
    case rel => exact ⟨k + 1, nv, by omega, by go_num, by first | rfl | simpa using hst1 | simpa using hst2, HN⟩
    case measure => simp [intOf]; omega
end Go.Proofs.Ytlkfaednolmfkaa

