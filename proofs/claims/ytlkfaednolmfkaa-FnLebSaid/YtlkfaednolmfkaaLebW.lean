/-
  PutLeb, PutSleb, PutFix of both packages (by program: gen_leb.py).
-/
import Derived.Test.YtlkfaednolmfkaaLeb
namespace Go.Proofs.Ytlkfaednolmfkaa
open Go.RowKit
set_option linter.unusedVariables false
set_option linter.unusedSimpArgs false
set_option linter.unnecessarySimpa false
set_option maxRecDepth 16000

theorem leb_pos (n : Int) : 1 ≤ (leb n).length := by rw [leb]; split <;> simp
theorem sleb_pos (n : Int) : 1 ≤ (sleb n).length := by rw [sleb]; split <;> simp
set_option maxHeartbeats 1600000 in
theorem specPutLeb_any (n0 : Int) (h0 : 0 ≤ n0) (hn : (Lit.int .i64 n0).wf = true) (w : World) : Calls Try.prog 43 #[.int .i64 n0] w fun e w' => e = .returned (.string (strOfNums (leb n0))) ∧ Below w.heap.size w w' := by
  obtain ⟨i0, hi, hz0, hz1, hz2⟩ := info_parts byte_info
  obtain ⟨L, hL⟩ : ∃ L, L = leb n0 := ⟨_, rfl⟩
  have hten : L.length ≤ 10 := by rw [hL]; exact leb_ten h0 hn
  rw [← hL]
  have HL := Lib.hid hL
  have hb64 := wf64 hn
  clear hL hn
  have ho0 : (w.alloc (.cells #[] 5)).ownsRow w.heap.size 5 1 (.slice (some ⟨w.heap.size, 0, none⟩) 0 0) 0 (bytesV []) := World.ownsRow_made w #[] 0 (Nat.le_refl _) (by simp) (by simp)
  have hb0 : Below w.heap.size w (w.alloc (.cells #[] 5)) := (Below.refl _ _).alloc (Nat.le_refl _) _
  go_enter Try.func43, Try.ntmps43
  go_wp2_with fail
  go_loopw [0, 3] (fun n b wr => ∃ (m : Nat) (u : Value) (acc : List Int) (x : Int), u = b ∧ n = .int .i64 x ∧ 0 ≤ x ∧ -9223372036854775808 ≤ x ∧ x ≤ 9223372036854775807 ∧ Hid (acc ++ leb x = L) ∧ Hid (acc.length = m) ∧ m + 1 ≤ 10 ∧ wr.ownsRow w.heap.size 5 1 u m (bytesV acc) ∧ Below w.heap.size w wr) (fun n _ _ => (intOf n).toNat)
  case atStart => exact ⟨0, _, [], n0, rfl, rfl, h0, hb64.1, hb64.2, Lib.hid (by rw [List.nil_append]; exact HL.out.symm), Lib.hid rfl, by omega, ho0, hb0⟩
  case round =>
    clear ho0 hb0
    obtain ⟨m, u, acc, x, rfl, rfl, hx0, hx1, hx2, HA, HM, hm, hown, hbr⟩ := hrel
    have hsz := hbr.size
    obtain ⟨uA, uN, uC, rfl, _⟩ := (Own.of_own hown).form

    by_cases hgo : 127 < x
    · have hlen : m + 2 ≤ 10 := by
        have h1 := HA.out
        rw [leb_more hgo] at h1
        have h2 := congrArg List.length h1
        have h3 : 1 ≤ (leb (x / 128)).length := leb_pos _
        have h4 := HM.out
        simp at h2
        omega
      have HA2 : Hid ((acc ++ [x % 128 + 128]) ++ leb (x / 128) = L) := by
        show _ = _
        rw [← HA.out, leb_more hgo, List.append_assoc]
        rfl
      have hs1 := hown.alloc (.cells #[Value.int .u8 (x % 128 + 128)] 5)
      have hc1 := cell_one_new wr (Value.int .u8 (x % 128 + 128)) 5
      have hB2 : Below w.heap.size w (wr.alloc (.cells #[Value.int .u8 (x % 128 + 128)] 5)) := hbr.alloc hsz _
      have a1 := i64_and127 x
      have a2 : IntKind.i64.wrap (x % 128 + 128) = x % 128 + 128 := by rw [IntWalk.i64_in _ (by omega)]
      have a3 : IntKind.u8.wrap (x % 128 + 128) = x % 128 + 128 := by rw [IntKind.wrap_u8]; omega
      clear hown
      skip
      all_goals
        go_wp2_with (at_builtin; refine wpList_append_own _ rfl _ _ 28 rfl w.heap.size 5 i0 (.int .u8 0) 1 1 Try.underlying28 hi hz0 hz1 hz2 rfl (by decide) _ _ _ rfl hs1 ⟨wr.heap.size, 0, none⟩ 1 1 [_] rfl rfl hc1 (one_byte _) (by simp only [maxLen]; omega) (by omega) hB2.size ?_; intro v' w3 hown' hgrow _)
        have hB3 := hB2.grown hgrow hB2.size (fun g hg => (hs1.lt g hg).1)
        go_roundw
        case rel => exact ⟨m + 1, _, acc ++ [x % 128 + 128], x / 128, rfl, by first | rfl | go_num, by first | trivial | omega, by omega, by omega, HA2, Lib.hid (by have := HM.out; simp; omega), by omega, by rw [bytesV_append]; exact hown', hB3⟩
        case measure => simp [intOf]; omega
    · have HA2 : Hid (acc ++ [x] = L) := by
        show _ = _
        rw [← HA.out, leb_one (by omega)]
      have hs1 := hown.alloc (.cells #[Value.int .u8 (x)] 5)
      have hc1 := cell_one_new wr (Value.int .u8 (x)) 5
      have hB2 : Below w.heap.size w (wr.alloc (.cells #[Value.int .u8 (x)] 5)) := hbr.alloc hsz _
      have a3 : IntKind.u8.wrap x = x := by rw [IntKind.wrap_u8]; omega
      clear hown
      go_wp2_with (at_builtin; refine wpList_append_own _ rfl _ _ 28 rfl w.heap.size 5 i0 (.int .u8 0) 1 1 Try.underlying28 hi hz0 hz1 hz2 rfl (by decide) _ _ _ rfl hs1 ⟨wr.heap.size, 0, none⟩ 1 1 [_] rfl rfl hc1 (one_byte _) (by simp only [maxLen]; omega) (by omega) hB2.size ?_; intro v' w3 hown' hgrow _; obtain ⟨vA, vN, vC, rfl, hvl⟩ := (Own.of_own hown').form; have hvn : vN = m + 1 := (owns_n hown'); subst hvn; have hstr := str_bytes (zs := acc ++ [x]) (by rw [bytesV_append]; exact hown'))
      have hB3 := hB2.grown hgrow hB2.size (fun g hg => (hs1.lt g hg).1)
      go_ret
      exact ⟨ret_str (by rw [HA2.out]), hB3⟩

set_option maxHeartbeats 1600000 in
theorem implPutLeb_any (n0 : Int) (h0 : 0 ≤ n0) (hn : (Lit.int .i64 n0).wf = true) (w : World) : Calls Try.prog 14 #[.int .i64 n0] w fun e w' => e = .returned (.string (strOfNums (leb n0))) ∧ Below w.heap.size w w' := by
  obtain ⟨i0, hi, hz0, hz1, hz2⟩ := info_parts byte_info
  obtain ⟨L, hL⟩ : ∃ L, L = leb n0 := ⟨_, rfl⟩
  have hten : L.length ≤ 10 := by rw [hL]; exact leb_ten h0 hn
  rw [← hL]
  have HL := Lib.hid hL
  have hb64 := wf64 hn
  clear hL hn
  have ho0 : (w.alloc (.cells #[] 5)).ownsRow w.heap.size 5 1 (.slice (some ⟨w.heap.size, 0, none⟩) 0 0) 0 (bytesV []) := World.ownsRow_made w #[] 0 (Nat.le_refl _) (by simp) (by simp)
  have hb0 : Below w.heap.size w (w.alloc (.cells #[] 5)) := (Below.refl _ _).alloc (Nat.le_refl _) _
  go_enter Try.func14, Try.ntmps14
  go_wp2_with fail
  go_loopw [0, 3] (fun n b wr => ∃ (m : Nat) (u : Value) (acc : List Int) (x : Int), u = b ∧ n = .int .i64 x ∧ 0 ≤ x ∧ -9223372036854775808 ≤ x ∧ x ≤ 9223372036854775807 ∧ Hid (acc ++ leb x = L) ∧ Hid (acc.length = m) ∧ m + 1 ≤ 10 ∧ wr.ownsRow w.heap.size 5 1 u m (bytesV acc) ∧ Below w.heap.size w wr) (fun n _ _ => (intOf n).toNat)
  case atStart => exact ⟨0, _, [], n0, rfl, rfl, h0, hb64.1, hb64.2, Lib.hid (by rw [List.nil_append]; exact HL.out.symm), Lib.hid rfl, by omega, ho0, hb0⟩
  case round =>
    clear ho0 hb0
    obtain ⟨m, u, acc, x, rfl, rfl, hx0, hx1, hx2, HA, HM, hm, hown, hbr⟩ := hrel
    have hsz := hbr.size
    obtain ⟨uA, uN, uC, rfl, _⟩ := (Own.of_own hown).form

    by_cases hgo : 127 < x
    · have hlen : m + 2 ≤ 10 := by
        have h1 := HA.out
        rw [leb_more hgo] at h1
        have h2 := congrArg List.length h1
        have h3 : 1 ≤ (leb (x / 128)).length := leb_pos _
        have h4 := HM.out
        simp at h2
        omega
      have HA2 : Hid ((acc ++ [x % 128 + 128]) ++ leb (x / 128) = L) := by
        show _ = _
        rw [← HA.out, leb_more hgo, List.append_assoc]
        rfl
      have hs1 := hown.alloc (.cells #[Value.int .u8 (x % 128 + 128)] 5)
      have hc1 := cell_one_new wr (Value.int .u8 (x % 128 + 128)) 5
      have hB2 : Below w.heap.size w (wr.alloc (.cells #[Value.int .u8 (x % 128 + 128)] 5)) := hbr.alloc hsz _
      have a1 : x.tmod 128 = x % 128 := Int.tmod_eq_emod_of_nonneg hx0
      have a5 : x.tdiv 128 = x / 128 := Int.tdiv_eq_ediv_of_nonneg hx0
      have a2 : IntKind.i64.wrap (x % 128 + 128) = x % 128 + 128 := by rw [IntWalk.i64_in _ (by omega)]
      have a3 : IntKind.u8.wrap (x % 128 + 128) = x % 128 + 128 := by rw [IntKind.wrap_u8]; omega
      clear hown
      skip
      all_goals
        go_wp2_with (at_builtin; refine wpList_append_own _ rfl _ _ 28 rfl w.heap.size 5 i0 (.int .u8 0) 1 1 Try.underlying28 hi hz0 hz1 hz2 rfl (by decide) _ _ _ rfl hs1 ⟨wr.heap.size, 0, none⟩ 1 1 [_] rfl rfl hc1 (one_byte _) (by simp only [maxLen]; omega) (by omega) hB2.size ?_; intro v' w3 hown' hgrow _)
        have hB3 := hB2.grown hgrow hB2.size (fun g hg => (hs1.lt g hg).1)
        go_roundw
        case rel => exact ⟨m + 1, _, acc ++ [x % 128 + 128], x / 128, rfl, by first | rfl | go_num, by first | trivial | omega, by omega, by omega, HA2, Lib.hid (by have := HM.out; simp; omega), by omega, by rw [bytesV_append]; exact hown', hB3⟩
        case measure => simp [intOf]; omega
    · have HA2 : Hid (acc ++ [x] = L) := by
        show _ = _
        rw [← HA.out, leb_one (by omega)]
      have hs1 := hown.alloc (.cells #[Value.int .u8 (x)] 5)
      have hc1 := cell_one_new wr (Value.int .u8 (x)) 5
      have hB2 : Below w.heap.size w (wr.alloc (.cells #[Value.int .u8 (x)] 5)) := hbr.alloc hsz _
      have a3 : IntKind.u8.wrap x = x := by rw [IntKind.wrap_u8]; omega
      clear hown
      go_wp2_with (at_builtin; refine wpList_append_own _ rfl _ _ 28 rfl w.heap.size 5 i0 (.int .u8 0) 1 1 Try.underlying28 hi hz0 hz1 hz2 rfl (by decide) _ _ _ rfl hs1 ⟨wr.heap.size, 0, none⟩ 1 1 [_] rfl rfl hc1 (one_byte _) (by simp only [maxLen]; omega) (by omega) hB2.size ?_; intro v' w3 hown' hgrow _; obtain ⟨vA, vN, vC, rfl, hvl⟩ := (Own.of_own hown').form; have hvn : vN = m + 1 := (owns_n hown'); subst hvn; have hstr := str_bytes (zs := acc ++ [x]) (by rw [bytesV_append]; exact hown'))
      have hB3 := hB2.grown hgrow hB2.size (fun g hg => (hs1.lt g hg).1)
      go_ret
      exact ⟨ret_str (by rw [HA2.out]), hB3⟩

set_option maxHeartbeats 1600000 in
theorem specPutSleb_any (n0 : Int) (hn : (Lit.int .i64 n0).wf = true) (w : World) : Calls Try.prog 58 #[.int .i64 n0] w fun e w' => e = .returned (.string (strOfNums (sleb n0))) ∧ Below w.heap.size w w' := by
  obtain ⟨i0, hi, hz0, hz1, hz2⟩ := info_parts byte_info
  obtain ⟨L, hL⟩ : ∃ L, L = sleb n0 := ⟨_, rfl⟩
  have hten : L.length ≤ 10 := by rw [hL]; exact sleb_ten hn
  rw [← hL]
  have HL := Lib.hid hL
  have hb64 := wf64 hn
  clear hL hn
  have ho0 : (w.alloc (.cells #[] 5)).ownsRow w.heap.size 5 1 (.slice (some ⟨w.heap.size, 0, none⟩) 0 0) 0 (bytesV []) := World.ownsRow_made w #[] 0 (Nat.le_refl _) (by simp) (by simp)
  have hb0 : Below w.heap.size w (w.alloc (.cells #[] 5)) := (Below.refl _ _).alloc (Nat.le_refl _) _
  go_enter Try.func58, Try.ntmps58
  go_wp2_with fail
  go_loopw [0, 3] (fun n b wr => ∃ (m : Nat) (u : Value) (acc : List Int) (x : Int), u = b ∧ n = .int .i64 x ∧ True ∧ -9223372036854775808 ≤ x ∧ x ≤ 9223372036854775807 ∧ Hid (acc ++ sleb x = L) ∧ Hid (acc.length = m) ∧ m + 1 ≤ 10 ∧ wr.ownsRow w.heap.size 5 1 u m (bytesV acc) ∧ Below w.heap.size w wr) (fun n _ _ => (intOf n).natAbs)
  case atStart => exact ⟨0, _, [], n0, rfl, rfl, trivial, hb64.1, hb64.2, Lib.hid (by rw [List.nil_append]; exact HL.out.symm), Lib.hid rfl, by omega, ho0, hb0⟩
  case round =>
    clear ho0 hb0
    obtain ⟨m, u, acc, x, rfl, rfl, hx0, hx1, hx2, HA, HM, hm, hown, hbr⟩ := hrel
    have hsz := hbr.size
    obtain ⟨uA, uN, uC, rfl, _⟩ := (Own.of_own hown).form

    by_cases hgo : ¬ (-64 ≤ x ∧ x ≤ 63)
    · have hlen : m + 2 ≤ 10 := by
        have h1 := HA.out
        rw [sleb_more hgo] at h1
        have h2 := congrArg List.length h1
        have h3 : 1 ≤ (sleb (x / 128)).length := sleb_pos _
        have h4 := HM.out
        simp at h2
        omega
      have HA2 : Hid ((acc ++ [x % 128 + 128]) ++ sleb (x / 128) = L) := by
        show _ = _
        rw [← HA.out, sleb_more hgo, List.append_assoc]
        rfl
      have hs1 := hown.alloc (.cells #[Value.int .u8 (x % 128 + 128)] 5)
      have hc1 := cell_one_new wr (Value.int .u8 (x % 128 + 128)) 5
      have hB2 : Below w.heap.size w (wr.alloc (.cells #[Value.int .u8 (x % 128 + 128)] 5)) := hbr.alloc hsz _
      have a1 := i64_and127 x
      have a2 : IntKind.i64.wrap (x % 128 + 128) = x % 128 + 128 := by rw [IntWalk.i64_in _ (by omega)]
      have a3 : IntKind.u8.wrap (x % 128 + 128) = x % 128 + 128 := by rw [IntKind.wrap_u8]; omega
      clear hown
      rcases (show (x < -64 ∧ ¬ 63 < x) ∨ (¬ x < -64) by omega) with hlow | hlow
      all_goals
        go_wp2_with (at_builtin; refine wpList_append_own _ rfl _ _ 28 rfl w.heap.size 5 i0 (.int .u8 0) 1 1 Try.underlying28 hi hz0 hz1 hz2 rfl (by decide) _ _ _ rfl hs1 ⟨wr.heap.size, 0, none⟩ 1 1 [_] rfl rfl hc1 (one_byte _) (by simp only [maxLen]; omega) (by omega) hB2.size ?_; intro v' w3 hown' hgrow _)
        have hB3 := hB2.grown hgrow hB2.size (fun g hg => (hs1.lt g hg).1)
        go_roundw
        case rel => exact ⟨m + 1, _, acc ++ [x % 128 + 128], x / 128, rfl, by first | rfl | go_num, by first | trivial | omega, by omega, by omega, HA2, Lib.hid (by have := HM.out; simp; omega), by omega, by rw [bytesV_append]; exact hown', hB3⟩
        case measure => simp [intOf]; omega
    · have HA2 : Hid (acc ++ [x % 128] = L) := by
        show _ = _
        rw [← HA.out, sleb_one (by omega) (by omega)]
      have hs1 := hown.alloc (.cells #[Value.int .u8 (x % 128)] 5)
      have hc1 := cell_one_new wr (Value.int .u8 (x % 128)) 5
      have hB2 : Below w.heap.size w (wr.alloc (.cells #[Value.int .u8 (x % 128)] 5)) := hbr.alloc hsz _
      have a1 := i64_and127 x
      have a3 : IntKind.u8.wrap (x % 128) = x % 128 := by rw [IntKind.wrap_u8]; omega
      clear hown
      go_wp2_with (at_builtin; refine wpList_append_own _ rfl _ _ 28 rfl w.heap.size 5 i0 (.int .u8 0) 1 1 Try.underlying28 hi hz0 hz1 hz2 rfl (by decide) _ _ _ rfl hs1 ⟨wr.heap.size, 0, none⟩ 1 1 [_] rfl rfl hc1 (one_byte _) (by simp only [maxLen]; omega) (by omega) hB2.size ?_; intro v' w3 hown' hgrow _; obtain ⟨vA, vN, vC, rfl, hvl⟩ := (Own.of_own hown').form; have hvn : vN = m + 1 := (owns_n hown'); subst hvn; have hstr := str_bytes (zs := acc ++ [x % 128]) (by rw [bytesV_append]; exact hown'))
      have hB3 := hB2.grown hgrow hB2.size (fun g hg => (hs1.lt g hg).1)
      go_ret
      exact ⟨ret_str (by rw [HA2.out]), hB3⟩

set_option maxHeartbeats 1600000 in
theorem implPutSleb_any (n0 : Int) (hn : (Lit.int .i64 n0).wf = true) (w : World) : Calls Try.prog 12 #[.int .i64 n0] w fun e w' => e = .returned (.string (strOfNums (sleb n0))) ∧ Below w.heap.size w w' := by
  obtain ⟨i0, hi, hz0, hz1, hz2⟩ := info_parts byte_info
  obtain ⟨L, hL⟩ : ∃ L, L = sleb n0 := ⟨_, rfl⟩
  have hten : L.length ≤ 10 := by rw [hL]; exact sleb_ten hn
  rw [← hL]
  have HL := Lib.hid hL
  have hb64 := wf64 hn
  clear hL hn
  have ho0 : (w.alloc (.cells #[] 5)).ownsRow w.heap.size 5 1 (.slice (some ⟨w.heap.size, 0, none⟩) 0 0) 0 (bytesV []) := World.ownsRow_made w #[] 0 (Nat.le_refl _) (by simp) (by simp)
  have hb0 : Below w.heap.size w (w.alloc (.cells #[] 5)) := (Below.refl _ _).alloc (Nat.le_refl _) _
  go_enter Try.func12, Try.ntmps12
  go_wp2_with fail
  go_loopw [0, 3] (fun n b wr => ∃ (m : Nat) (u : Value) (acc : List Int) (x : Int), u = b ∧ n = .int .i64 x ∧ True ∧ -9223372036854775808 ≤ x ∧ x ≤ 9223372036854775807 ∧ Hid (acc ++ sleb x = L) ∧ Hid (acc.length = m) ∧ m + 1 ≤ 10 ∧ wr.ownsRow w.heap.size 5 1 u m (bytesV acc) ∧ Below w.heap.size w wr) (fun n _ _ => (intOf n).natAbs)
  case atStart => exact ⟨0, _, [], n0, rfl, rfl, trivial, hb64.1, hb64.2, Lib.hid (by rw [List.nil_append]; exact HL.out.symm), Lib.hid rfl, by omega, ho0, hb0⟩
  case round =>
    clear ho0 hb0
    obtain ⟨m, u, acc, x, rfl, rfl, hx0, hx1, hx2, HA, HM, hm, hown, hbr⟩ := hrel
    have hsz := hbr.size
    obtain ⟨uA, uN, uC, rfl, _⟩ := (Own.of_own hown).form

    by_cases hgo : ¬ (-64 ≤ x ∧ x ≤ 63)
    · have hlen : m + 2 ≤ 10 := by
        have h1 := HA.out
        rw [sleb_more hgo] at h1
        have h2 := congrArg List.length h1
        have h3 : 1 ≤ (sleb (x / 128)).length := sleb_pos _
        have h4 := HM.out
        simp at h2
        omega
      have HA2 : Hid ((acc ++ [x % 128 + 128]) ++ sleb (x / 128) = L) := by
        show _ = _
        rw [← HA.out, sleb_more hgo, List.append_assoc]
        rfl
      have hs1 := hown.alloc (.cells #[Value.int .u8 (x % 128 + 128)] 5)
      have hc1 := cell_one_new wr (Value.int .u8 (x % 128 + 128)) 5
      have hB2 : Below w.heap.size w (wr.alloc (.cells #[Value.int .u8 (x % 128 + 128)] 5)) := hbr.alloc hsz _
      have a1 := i64_and127 x
      have a3 : IntKind.u8.wrap (x % 128) = x % 128 := by rw [IntKind.wrap_u8]; omega
      have a4 := u8_or128_right (x % 128) (by omega) (by omega)
      have hin : inB x (-64) 63 = false := inB_no.2 (by omega)
      clear hown
      rcases (show (x < -64 ∧ ¬ 63 < x) ∨ (¬ x < -64) by omega) with hlow | hlow
      all_goals
        go_wp2_with (first | (go_at_call 39; refine (within_any _ _ _ _).mono ?_; rintro e w' ⟨rfl, rfl⟩) | (at_builtin; refine wpList_append_own _ rfl _ _ 28 rfl w.heap.size 5 i0 (.int .u8 0) 1 1 Try.underlying28 hi hz0 hz1 hz2 rfl (by decide) _ _ _ rfl hs1 ⟨wr.heap.size, 0, none⟩ 1 1 [_] rfl rfl hc1 (one_byte _) (by simp only [maxLen]; omega) (by omega) hB2.size ?_; intro v' w3 hown' hgrow _))
        have hB3 := hB2.grown hgrow hB2.size (fun g hg => (hs1.lt g hg).1)
        go_roundw
        case rel => exact ⟨m + 1, _, acc ++ [x % 128 + 128], x / 128, rfl, by first | rfl | go_num, by first | trivial | omega, by omega, by omega, HA2, Lib.hid (by have := HM.out; simp; omega), by omega, by rw [bytesV_append]; exact hown', hB3⟩
        case measure => simp [intOf]; omega
    · have HA2 : Hid (acc ++ [x % 128] = L) := by
        show _ = _
        rw [← HA.out, sleb_one (by omega) (by omega)]
      have hs1 := hown.alloc (.cells #[Value.int .u8 (x % 128)] 5)
      have hc1 := cell_one_new wr (Value.int .u8 (x % 128)) 5
      have hB2 : Below w.heap.size w (wr.alloc (.cells #[Value.int .u8 (x % 128)] 5)) := hbr.alloc hsz _
      have a1 := i64_and127 x
      have a3 : IntKind.u8.wrap (x % 128) = x % 128 := by rw [IntKind.wrap_u8]; omega
      have hin : inB x (-64) 63 = true := inB_iff.2 (by omega)
      clear hown
      go_wp2_with (first | (go_at_call 39; refine (within_any _ _ _ _).mono ?_; rintro e w' ⟨rfl, rfl⟩) | (at_builtin; refine wpList_append_own _ rfl _ _ 28 rfl w.heap.size 5 i0 (.int .u8 0) 1 1 Try.underlying28 hi hz0 hz1 hz2 rfl (by decide) _ _ _ rfl hs1 ⟨wr.heap.size, 0, none⟩ 1 1 [_] rfl rfl hc1 (one_byte _) (by simp only [maxLen]; omega) (by omega) hB2.size ?_; intro v' w3 hown' hgrow _; obtain ⟨vA, vN, vC, rfl, hvl⟩ := (Own.of_own hown').form; have hvn : vN = m + 1 := (owns_n hown'); subst hvn; have hstr := str_bytes (zs := acc ++ [x % 128]) (by rw [bytesV_append]; exact hown')))
      have hB3 := hB2.grown hgrow hB2.size (fun g hg => (hs1.lt g hg).1)
      go_ret
      exact ⟨ret_str (by rw [HA2.out]), hB3⟩

set_option maxHeartbeats 1600000 in
theorem specFix_any (n0 : Int) (h1 : 0 ≤ n0) (h2 : n0 ≤ 40) (w : World) : Calls Try.prog 61 #[.int .i64 n0, .int .i64 1] w fun e w' => e = .returned (.string (strOfNums [n0])) ∧ Below w.heap.size w w' := by
  obtain ⟨i0, hi, hz0, hz1, hz2⟩ := info_parts byte_info
  have ho0 : (w.alloc (.cells #[] 5)).ownsRow w.heap.size 5 1 (.slice (some ⟨w.heap.size, 0, none⟩) 0 0) 0 (bytesV []) := World.ownsRow_made w #[] 0 (Nat.le_refl _) (by simp) (by simp)
  have hb0 : Below w.heap.size w (w.alloc (.cells #[] 5)) := (Below.refl _ _).alloc (Nat.le_refl _) _
  go_enter Try.func61, Try.ntmps61
  go_wp2_with fail
  go_loopw [0, 5, 6] (fun n b i wr => ∃ (u : Value) (k : Nat) (x : Int), u = b ∧ n = .int .i64 x ∧ i = .int .i64 k ∧ ((k = 0 ∧ x = n0 ∧ wr.ownsRow w.heap.size 5 1 u 0 (bytesV [])) ∨ (k = 1 ∧ wr.ownsRow w.heap.size 5 1 u 1 (bytesV [n0]))) ∧ Below w.heap.size w wr) (fun _ _ i _ => 1 - (intOf i).toNat)
  case atStart => exact ⟨_, 0, n0, rfl, rfl, rfl, .inl ⟨rfl, rfl, ho0⟩, hb0⟩
  case round =>
    clear ho0 hb0
    obtain ⟨u, k, x, rfl, rfl, rfl, hor, hbr⟩ := hrel
    have hsz := hbr.size
    rcases hor with ⟨rfl, rfl, hown⟩ | ⟨rfl, hown⟩
    · obtain ⟨uA, uN, uC, rfl, _⟩ := (Own.of_own hown).form
      have hs1 := hown.alloc (.cells #[Value.int .u8 x] 5)
      have hc1 := cell_one_new wr (Value.int .u8 x) 5
      have hB2 : Below w.heap.size w (wr.alloc (.cells #[Value.int .u8 x] 5)) := hbr.alloc hsz _
      have a1 : bits .and .i64 x 255 = x := by rw [and255 x (by omega) (by omega)]; omega
      have hin : inB 1 0 8 = true := rfl
      have a3 : IntKind.u8.wrap x = x := by rw [IntKind.wrap_u8]; omega
      clear hown
      go_wp2_with (first | (go_at_call 79; refine (l00In_any _ _ _ _).mono ?_; rintro e w' ⟨rfl, rfl⟩) | (at_builtin; refine wpList_append_own _ rfl _ _ 28 rfl w.heap.size 5 i0 (.int .u8 0) 1 1 Try.underlying28 hi hz0 hz1 hz2 rfl (by decide) _ _ _ rfl hs1 ⟨wr.heap.size, 0, none⟩ 1 1 [_] rfl rfl hc1 (one_byte _) (by simp only [maxLen]; omega) (by omega) hB2.size ?_; intro v' w3 hown' hgrow _))
      have hB3 := hB2.grown hgrow hB2.size (fun g hg => (hs1.lt g hg).1)
      go_roundw
      case rel => exact ⟨_, 1, _, rfl, rfl, by first | rfl | go_num, .inr ⟨rfl, hown'⟩, hB3⟩
      case measure => simp [intOf]
    · obtain ⟨uA, uN, uC, rfl, _⟩ := (Own.of_own hown).form
      have hun : uN = 1 := owns_n hown
      subst hun
      have hstr := str_bytes (zs := [n0]) hown
      go_wp2_with fail
      go_ret
      exact ⟨rfl, hbr⟩

set_option maxHeartbeats 1600000 in
theorem implFix_any (n0 : Int) (h1 : 0 ≤ n0) (h2 : n0 ≤ 40) (w : World) : Calls Try.prog 48 #[.int .i64 n0, .int .i64 1] w fun e w' => e = .returned (.string (strOfNums [n0])) ∧ Below w.heap.size w w' := by
  obtain ⟨i0, hi, hz0, hz1, hz2⟩ := info_parts byte_info
  have ho0 : (w.alloc (.cells #[] 5)).ownsRow w.heap.size 5 1 (.slice (some ⟨w.heap.size, 0, none⟩) 0 0) 0 (bytesV []) := World.ownsRow_made w #[] 0 (Nat.le_refl _) (by simp) (by simp)
  have hb0 : Below w.heap.size w (w.alloc (.cells #[] 5)) := (Below.refl _ _).alloc (Nat.le_refl _) _
  go_enter Try.func48, Try.ntmps48
  go_wp2_with fail
  go_loopw [0, 5, 8] (fun n b i wr => ∃ (u : Value) (k : Nat) (x : Int), u = b ∧ n = .int .i64 x ∧ i = .int .i64 k ∧ ((k = 0 ∧ x = n0 ∧ wr.ownsRow w.heap.size 5 1 u 0 (bytesV [])) ∨ (k = 1 ∧ wr.ownsRow w.heap.size 5 1 u 1 (bytesV [n0]))) ∧ Below w.heap.size w wr) (fun _ _ i _ => 1 - (intOf i).toNat)
  case atStart => exact ⟨_, 0, n0, rfl, rfl, rfl, .inl ⟨rfl, rfl, ho0⟩, hb0⟩
  case round =>
    clear ho0 hb0
    obtain ⟨u, k, x, rfl, rfl, rfl, hor, hbr⟩ := hrel
    have hsz := hbr.size
    rcases hor with ⟨rfl, rfl, hown⟩ | ⟨rfl, hown⟩
    · obtain ⟨uA, uN, uC, rfl, _⟩ := (Own.of_own hown).form
      have hs1 := hown.alloc (.cells #[Value.int .u8 x] 5)
      have hc1 := cell_one_new wr (Value.int .u8 x) 5
      have hB2 : Below w.heap.size w (wr.alloc (.cells #[Value.int .u8 x] 5)) := hbr.alloc hsz _
      skip
      have hin : inB 1 0 8 = true := rfl
      have a3 : IntKind.u8.wrap x = x := by rw [IntKind.wrap_u8]; omega
      clear hown
      go_wp2_with (at_builtin; refine wpList_append_own _ rfl _ _ 28 rfl w.heap.size 5 i0 (.int .u8 0) 1 1 Try.underlying28 hi hz0 hz1 hz2 rfl (by decide) _ _ _ rfl hs1 ⟨wr.heap.size, 0, none⟩ 1 1 [_] rfl rfl hc1 (one_byte _) (by simp only [maxLen]; omega) (by omega) hB2.size ?_; intro v' w3 hown' hgrow _)
      have hB3 := hB2.grown hgrow hB2.size (fun g hg => (hs1.lt g hg).1)
      go_roundw
      case rel => exact ⟨_, 1, _, rfl, rfl, by first | rfl | go_num, .inr ⟨rfl, hown'⟩, hB3⟩
      case measure => simp [intOf]
    · obtain ⟨uA, uN, uC, rfl, _⟩ := (Own.of_own hown).form
      have hun : uN = 1 := owns_n hown
      subst hun
      have hstr := str_bytes (zs := [n0]) hown
      go_wp2_with fail
      go_ret
      exact ⟨rfl, hbr⟩

end Go.Proofs.Ytlkfaednolmfkaa

