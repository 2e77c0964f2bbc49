/-
  impl.PutHex, impl.GetHex (by program: gen_hex.py).
-/
import Derived.Test.YtlkfaednolmfkaaLebP
import Derived.Test.YtlkfaednolmfkaaGrw
import Derived.Test.YtlkfaednolmfkaaIndexByte
import Derived.Deep.RegionHeld3
namespace Go.Proofs.Ytlkfaednolmfkaa
open Go.RowKit
set_option linter.unusedVariables false
set_option linter.unusedSimpArgs false
set_option linter.unnecessarySimpa false
set_option maxRecDepth 16000

theorem dig_get (q : Nat) (hq : q < 16) : ∃ Q : Nat, (∀ h : q < (⟨#[48, 49, 50, 51, 52, 53, 54, 55, 56, 57, 97, 98, 99, 100, 101, 102]⟩ : ByteArray).size, ((⟨#[48, 49, 50, 51, 52, 53, 54, 55, 56, 57, 97, 98, 99, 100, 101, 102]⟩ : ByteArray)[q]'h).toNat = Q) ∧ hd q = Q := by
  rcases (show q = 0 ∨ q = 1 ∨ q = 2 ∨ q = 3 ∨ q = 4 ∨ q = 5 ∨ q = 6 ∨ q = 7 ∨ q = 8 ∨ q = 9 ∨ q = 10 ∨ q = 11 ∨ q = 12 ∨ q = 13 ∨ q = 14 ∨ q = 15 by omega) with rfl | rfl | rfl | rfl | rfl | rfl | rfl | rfl | rfl | rfl | rfl | rfl | rfl | rfl | rfl | rfl
  all_goals exact ⟨_, fun h => rfl, rfl⟩
theorem one_bytes (xs : List Int) : ∀ u ∈ bytesV xs, u.oneCell' = true := by
  intro u hu
  obtain ⟨x, _, rfl⟩ := List.mem_map.1 hu
  rfl
theorem news_one (w : World) (x : Int) : ∀ (j : Nat) (u : Value), (bytesV [x])[j]? = some u → (w.alloc (.cells #[Value.int .u8 x] 5)).cell? ((⟨w.heap.size, 0, none⟩ : Addr).add j) = some u := World.news_of_block (heap_alloc_new w _)
theorem news_two (w : World) (x y : Int) : ∀ (j : Nat) (u : Value), (bytesV [x, y])[j]? = some u → (w.alloc (.cells #[Value.int .u8 x, Value.int .u8 y] 5)).cell? ((⟨w.heap.size, 0, none⟩ : Addr).add j) = some u := World.news_of_block (heap_alloc_new w _)
set_option maxHeartbeats 6400000 in
theorem implPutHex_any (s : ByteArray) (hs : s.size ≤ 1048576) (w : World) : Calls Try.prog 21 #[.string s] w fun e w' => e = .returned (.string (strOfNums (hexL (byt s)))) ∧ Below w.heap.size w w' := by
  obtain ⟨i0, hi, hz0, hz1, hz2⟩ := info_parts byte_info
  have ho0 : Hid ((w.alloc (.cells #[] 5)).ownsRow w.heap.size 5 1 (.slice (some ⟨w.heap.size, 0, none⟩) 0 0) 0 (bytesV [])) := World.ownsRow_made w #[] 0 (Nat.le_refl _) (by simp) (by simp [bytesV])
  have hb0 : Hid (Below w.heap.size w (w.alloc (.cells #[] 5))) := (Below.refl _ _).alloc (Nat.le_refl _) _
  go_enter Try.func21, Try.ntmps21
  go_wp2_with fail
  go_loopw [3, 8] (fun b i wr => ∃ (k : Nat) (u : Value), u = b ∧ i = .int .i64 k ∧ k ≤ s.size ∧ Hid (wr.ownsRow w.heap.size 5 1 u (2 * k) (bytesV (hexL ((byt s).take k)))) ∧ Hid (Below w.heap.size w wr)) (fun _ i _ => s.size - (intOf i).toNat)
  case atStart => exact ⟨0, _, rfl, rfl, Nat.zero_le _, ho0, hb0⟩
  case round =>
    clear ho0 hb0
    obtain ⟨k, u, rfl, rfl, hk, HO, HB⟩ := hrel
    obtain ⟨uA, uN, uC, rfl, _⟩ := (Own.of_own HO.out).form
    by_cases hlt : k < s.size
    case neg =>
      have hke : k = s.size := by omega
      have hz : decide ((k : Int) < (s.size : Int)) = false := decide_eq_false (by omega)
      have hun := owns_n HO.out
      subst hun
      have hst := str_bytes HO.out
      have HF : Hid (hexL ((byt s).take k) = hexL (byt s)) := by show _ = _; rw [List.take_of_length_le (by rw [byt_length]; omega)]
      clear hke
      go_wp2_with fail
      go_ret
      exact ⟨ret_str (by rw [HF.out]), HB.out⟩
    have hb := byt_get hlt
    have hb255 : s[k].toNat < 256 := s[k].toNat_lt
    have HX := Lib.hid (hexL_take hb)
    obtain ⟨c, hc⟩ : ∃ c, c = s[k].toNat := ⟨_, rfl⟩
    rw [← hc] at hb255 HX
    obtain ⟨q1, hq1⟩ : ∃ q, q = c / 16 := ⟨_, rfl⟩
    obtain ⟨q2, hq2⟩ : ∃ q, q = c % 16 := ⟨_, rfl⟩
    obtain ⟨Q1, hQ1, hd1⟩ := dig_get q1 (by omega)
    obtain ⟨Q2, hQ2, hd2⟩ := dig_get q2 (by omega)
    have hw1 : IntKind.u8.wrap ((s[k].toNat : Int) / 16) = (q1 : Int) := (IntWalk.u8_in _ (by rw [← hc]; omega)).trans (by rw [← hc]; omega)
    have hw2 : (s[k].toNat : Int).tmod 16 = (q2 : Int) := by rw [Int.tmod_eq_emod_of_nonneg (by omega), ← hc]; omega
    have hl0 : (0 : Int) ≤ (q2 : Int) := by omega
    have hl1 : (q1 : Int) < 16 := by omega
    have hl2 : (q2 : Int) < 16 := by omega
    have hX : Hid (hexL ((byt s).take (k + 1)) = hexL ((byt s).take k) ++ [(Q1 : Int), (Q2 : Int)]) := by
      show _ = _
      rw [HX.out, ← hd1, ← hd2, hq1, hq2]
      rfl
    clear HX hd1 hd2 hq1 hq2 hc hb255
    have hki : IntKind.i64.wrap ((k : Int) + 1) = (k : Int) + 1 := IntWalk.i64_in _ (by omega)
    have hlti : (k : Int) < (s.size : Int) := by omega
    clear hb
    go_upto_region 5 with fail
    have HB1 : Hid (Below w.heap.size w ((wr.alloc (.cells #[Value.int .u8 ((Q1 : Int)), Value.int .u8 ((Q2 : Int))] 5)).drew)) := (HB.out.alloc HB.out.size _).drew
    have HO1 : Hid (((wr.alloc (.cells #[Value.int .u8 ((Q1 : Int)), Value.int .u8 ((Q2 : Int))] 5)).drew).ownsRow w.heap.size 5 1 (.slice uA uN uC) (2 * k) (bytesV (hexL ((byt s).take k)))) := HO.out.alloc _
    have HSC : Hid (SrcOk ((wr.alloc (.cells #[Value.int .u8 ((Q1 : Int)), Value.int .u8 ((Q2 : Int))] 5)).drew) (.slice (some ⟨wr.heap.size, 0, none⟩) 2 2) 1 2 (bytesV [(Q1 : Int), (Q2 : Int)])) := .inr ⟨⟨wr.heap.size, 0, none⟩, 2, rfl, rfl, news_two wr _ _⟩
    refine wp_region_held_drew (S := (fun _ => True)) (by kernel_rfl) trivial (fun hHeld => ?_)
    refine wpAnyH_take (i := 0) (oi := ?o0_1) (v := ?v0_1) ?h0_1 (by kernel_rfl) (by kernel_rfl) (by kernel_rfl) ?q0_1 (Or.inl ⟨?z0_1, ?y0_1⟩) (by assumption) ?r0_1
    case h0_1 =>
      simp only [List.getElem?_toArray, List.getElem?_cons_succ, List.getElem?_cons_zero]
      rfl
    case q0_1 => exact fun _ _ _ h => h
    case z0_1 => rfl
    case y0_1 =>
      intro w hSw
      try dsimp only at hSw
      go_simp
      try with_reducible rfl
    try simp only [Act.put, List.setIfInBounds_toArray, List.set_cons_zero, List.set_cons_succ]
    refine wpAnyH_take (i := 1) (oi := ?o1_2) (v := ?v1_2) ?h1_2 (by kernel_rfl) (by kernel_rfl) (by kernel_rfl) ?q1_2 (Or.inl ⟨?z1_2, ?y1_2⟩) (by assumption) ?r1_2
    case h1_2 =>
      simp only [List.getElem?_toArray, List.getElem?_cons_succ, List.getElem?_cons_zero]
      rfl
    case q1_2 => exact fun _ _ _ h => h
    case z1_2 => rfl
    case y1_2 =>
      intro w hSw
      try dsimp only at hSw
      go_simp
      try with_reducible rfl
    try simp only [Act.put, List.setIfInBounds_toArray, List.set_cons_zero, List.set_cons_succ]
    refine wpAnyH_take (i := 2) (oi := ?o2_3) (v := ?v2_3) ?h2_3 (by kernel_rfl) (by kernel_rfl) (by kernel_rfl) ?q2_3 (Or.inl ⟨?z2_3, ?y2_3⟩) (by assumption) ?r2_3
    case h2_3 =>
      simp only [List.getElem?_toArray, List.getElem?_cons_succ, List.getElem?_cons_zero]
      rfl
    case q2_3 => exact fun _ _ _ h => h
    case z2_3 => rfl
    case y2_3 =>
      intro w hSw
      try dsimp only at hSw
      go_simp
      try with_reducible rfl
    try simp only [Act.put, List.setIfInBounds_toArray, List.set_cons_zero, List.set_cons_succ]
    refine wpAnyH_take (i := 3) (oi := ?o3_4) (v := ?v3_4) ?h3_4 (by kernel_rfl) (by kernel_rfl) (by kernel_rfl) ?q3_4 (Or.inl ⟨?z3_4, ?y3_4⟩) (by assumption) ?r3_4
    case h3_4 =>
      simp only [List.getElem?_toArray, List.getElem?_cons_succ, List.getElem?_cons_zero]
      rfl
    case q3_4 => exact fun _ _ _ h => h
    case z3_4 => rfl
    case y3_4 =>
      intro w hSw
      try dsimp only at hSw
      go_simp
      try with_reducible rfl
    try simp only [Act.put, List.setIfInBounds_toArray, List.set_cons_zero, List.set_cons_succ]
    refine wpAnyH_take (i := 4) (oi := ?o4_5) (v := ?v4_5) ?h4_5 (by kernel_rfl) (by kernel_rfl) (by kernel_rfl) ?q4_5 (Or.inl ⟨?z4_5, ?y4_5⟩) (by assumption) ?r4_5
    case h4_5 =>
      simp only [List.getElem?_toArray, List.getElem?_cons_succ, List.getElem?_cons_zero]
      rfl
    case q4_5 => exact fun _ _ _ h => h
    case z4_5 => rfl
    case y4_5 =>
      intro w hSw
      try dsimp only at hSw
      go_simp
      try with_reducible rfl
    try simp only [Act.put, List.setIfInBounds_toArray, List.set_cons_zero, List.set_cons_succ]
    refine wpAnyH_take (i := 5) (oi := ?o5_6) (v := ?v5_6) ?h5_6 (by kernel_rfl) (by kernel_rfl) (by kernel_rfl) ?q5_6 (Or.inl ⟨?z5_6, ?y5_6⟩) (by assumption) ?r5_6
    case h5_6 =>
      simp only [List.getElem?_toArray, List.getElem?_cons_succ, List.getElem?_cons_zero]
      rfl
    case q5_6 => exact fun _ _ _ h => h
    case z5_6 => rfl
    case y5_6 =>
      intro w hSw
      try dsimp only at hSw
      go_simp
      try with_reducible rfl
    try simp only [Act.put, List.setIfInBounds_toArray, List.set_cons_zero, List.set_cons_succ]
    refine wpAnyH_take (i := 6) (oi := ?o6_7) (v := ?v6_7) ?h6_7 (by kernel_rfl) (by kernel_rfl) (by kernel_rfl) ?q6_7 (Or.inl ⟨?z6_7, ?y6_7⟩) (by assumption) ?r6_7
    case h6_7 =>
      simp only [List.getElem?_toArray, List.getElem?_cons_succ, List.getElem?_cons_zero]
      rfl
    case q6_7 => exact fun _ _ _ h => h
    case z6_7 => rfl
    case y6_7 =>
      intro w hSw
      try dsimp only at hSw
      go_simp
      try with_reducible rfl
    try simp only [Act.put, List.setIfInBounds_toArray, List.set_cons_zero, List.set_cons_succ]
    refine wpAnyH_take (i := 7) (oi := ?o7_8) (v := ?v7_8) ?h7_8 (by kernel_rfl) (by kernel_rfl) (by kernel_rfl) ?q7_8 (Or.inl ⟨?z7_8, ?y7_8⟩) (by assumption) ?r7_8
    case h7_8 =>
      simp only [List.getElem?_toArray, List.getElem?_cons_succ, List.getElem?_cons_zero]
      rfl
    case q7_8 => exact fun _ _ _ h => h
    case z7_8 => rfl
    case y7_8 =>
      intro w hSw
      try dsimp only at hSw
      go_simp
      try with_reducible rfl
    try simp only [Act.put, List.setIfInBounds_toArray, List.set_cons_zero, List.set_cons_succ]
    refine wpAnyH_take (i := 8) (oi := ?o8_9) (v := ?v8_9) ?h8_9 (by kernel_rfl) (by kernel_rfl) (by kernel_rfl) ?q8_9 (Or.inl ⟨?z8_9, ?y8_9⟩) (by assumption) ?r8_9
    case h8_9 =>
      simp only [List.getElem?_toArray, List.getElem?_cons_succ, List.getElem?_cons_zero]
      rfl
    case q8_9 => exact fun _ _ _ h => h
    case z8_9 => rfl
    case y8_9 =>
      intro w hSw
      try dsimp only at hSw
      go_simp
      try with_reducible rfl
    try simp only [Act.put, List.setIfInBounds_toArray, List.set_cons_zero, List.set_cons_succ]
    refine wpAnyH_take (i := 9) (oi := ?o9_10) (v := ?v9_10) ?h9_10 (by kernel_rfl) (by kernel_rfl) (by kernel_rfl) ?q9_10 (Or.inl ⟨?z9_10, ?y9_10⟩) (by assumption) ?r9_10
    case h9_10 =>
      simp only [List.getElem?_toArray, List.getElem?_cons_succ, List.getElem?_cons_zero]
      rfl
    case q9_10 => exact fun _ _ _ h => h
    case z9_10 => rfl
    case y9_10 =>
      intro w hSw
      try dsimp only at hSw
      go_simp
      try with_reducible rfl
    try simp only [Act.put, List.setIfInBounds_toArray, List.set_cons_zero, List.set_cons_succ]
    refine wpAnyH_take (i := 10) (oi := ?o10_11) (v := ?v10_11) ?h10_11 (by kernel_rfl) (by kernel_rfl) (by kernel_rfl) ?q10_11 (Or.inl ⟨?z10_11, ?y10_11⟩) (by assumption) ?r10_11
    case h10_11 =>
      simp only [List.getElem?_toArray, List.getElem?_cons_succ, List.getElem?_cons_zero]
      rfl
    case q10_11 => exact fun _ _ _ h => h
    case z10_11 => rfl
    case y10_11 =>
      intro w hSw
      try dsimp only at hSw
      go_simp
      try with_reducible rfl
    try simp only [Act.put, List.setIfInBounds_toArray, List.set_cons_zero, List.set_cons_succ]
    refine wpAnyH_ready (rs := [11]) (by kernel_rfl) (by simp) ?_
    refine AllReadyH.cons (o := ?o11_12) ?h11_12 (fun K hK => ?k11_12) AllReadyH.nil
    case h11_12 =>
      simp only [List.getElem?_toArray, List.getElem?_cons_succ, List.getElem?_cons_zero]
      rfl
    go_simp
    refine hK.out _ _ (by first | exact trivial | go_keep) (fun hHeld12 => ?_)
    clear hK K
    try simp only [Act.put, List.setIfInBounds_toArray, List.set_cons_zero, List.set_cons_succ]
    refine wpAnyH_ready (rs := [12]) (by kernel_rfl) (by simp) ?_
    refine AllReadyH.cons (o := ?o12_13) ?h12_13 (fun K hK => ?k12_13) AllReadyH.nil
    case h12_13 =>
      simp only [List.getElem?_toArray, List.getElem?_cons_succ, List.getElem?_cons_zero]
      rfl
    refine step_append_src (by rfl) _ _ 28 (by rfl) w.heap.size 5 i0 (.int .u8 0) 1 1 Try.underlying28 hi hz0 hz1 hz2 rfl (by decide) (.slice uA uN uC) (2 * k) (bytesV (hexL ((byt s).take k))) (by rfl) HO1.out (.slice (some ⟨wr.heap.size, 0, none⟩) 2 2) 2 (bytesV [(Q1 : Int), (Q2 : Int)]) (by rfl) HSC.out (one_bytes _) (by simp only [maxLen]; omega) (by omega) HB1.out.size ?_
    intro v' w6 hown' hgrow _
    have hB5 := HB1.out.grown hgrow HB1.out.size (fun g hg => (HO1.out.lt g hg).1)
    refine hK.out _ _ (by first | exact trivial | go_keep) (fun hHeld13 => ?_)
    clear hK K
    try simp only [Act.put, List.setIfInBounds_toArray, List.set_cons_zero, List.set_cons_succ]
    refine wpAnyH_take (i := 13) (oi := ?o13_14) (v := ?v13_14) ?h13_14 (by kernel_rfl) (by kernel_rfl) (by kernel_rfl) ?q13_14 (Or.inl ⟨?z13_14, ?y13_14⟩) (by assumption) ?r13_14
    case h13_14 =>
      simp only [List.getElem?_toArray, List.getElem?_cons_succ, List.getElem?_cons_zero]
      rfl
    case q13_14 => exact fun _ _ _ h => h
    case z13_14 => rfl
    case y13_14 =>
      intro w hSw
      try dsimp only at hSw
      go_simp
      try with_reducible rfl
    try simp only [Act.put, List.setIfInBounds_toArray, List.set_cons_zero, List.set_cons_succ]
    refine wpAnyH_done (by kernel_rfl) ?_ _
    go_wp2_with fail
    go_roundw
    case rel => exact ⟨k + 1, _, rfl, by go_num, by omega, Lib.hid (by rw [hX.out, bytesV_append]; exact hown'), Lib.hid hB5⟩
    case measure => simp [intOf]; omega
theorem dig_idx (q : Nat) (hq : q < 16) (Q : Nat) (hQ : hd q = Q) : Lib.indexByte (⟨#[48, 49, 50, 51, 52, 53, 54, 55, 56, 57, 97, 98, 99, 100, 101, 102]⟩ : ByteArray).data.toList (Q.toUInt8) = (q : Int) := by
  rcases (show q = 0 ∨ q = 1 ∨ q = 2 ∨ q = 3 ∨ q = 4 ∨ q = 5 ∨ q = 6 ∨ q = 7 ∨ q = 8 ∨ q = 9 ∨ q = 10 ∨ q = 11 ∨ q = 12 ∨ q = 13 ∨ q = 14 ∨ q = 15 by omega) with rfl | rfl | rfl | rfl | rfl | rfl | rfl | rfl | rfl | rfl | rfl | rfl | rfl | rfl | rfl | rfl
  all_goals
    have e := congrArg Int.toNat hQ
    rw [Int.toNat_natCast] at e
    rw [← e]
    rfl
theorem hd_nat (q : Nat) (hq : q < 16) : ∃ Q : Nat, Q ≤ 255 ∧ hd q = Q := by
  obtain ⟨Q, h1, h2⟩ := dig_get q hq
  refine ⟨Q, ?_, h2⟩
  unfold hd at h2
  split at h2 <;> omega
set_option maxHeartbeats 6400000 in
theorem implGetHex_any (x t : ByteArray) (hx : x.size ≤ 100000) (ht : t = strOfNums (hexL (byt x))) (w : World) : Calls Try.prog 20 #[.string t] w fun e w' => e = .returned (.tuple #[.string x, .bool true]) ∧ Below w.heap.size w w' := by
  obtain ⟨i0, hi, hz0, hz1, hz2⟩ := info_parts byte_info
  have hts : t.size = 2 * x.size := by rw [ht, strOfNums_size, hexL_len, byt_length]
  have htb : byt t = hexL (byt x) := by rw [ht]; exact byt_strOfNums (hexL_mem fun y hy => byt_mem hy)
  have HP : Hid (∀ W, Calls Try.prog 21 #[.string x] W fun e w' => e = .returned (.string t) ∧ Below W.heap.size W w') := by
    intro W
    have := implPutHex_any x (by omega) W
    rw [← ht] at this
    exact this
  have HTS := Lib.hid hts
  have HTB := Lib.hid htb
  clear hts htb ht
  have ho0 : Hid ((w.alloc (.cells #[] 5)).ownsRow w.heap.size 5 1 (.slice (some ⟨w.heap.size, 0, none⟩) 0 0) 0 (bytesV [])) := World.ownsRow_made w #[] 0 (Nat.le_refl _) (by simp) (by simp [bytesV])
  have hb0 : Hid (Below w.heap.size w (w.alloc (.cells #[] 5))) := (Below.refl _ _).alloc (Nat.le_refl _) _
  go_enter Try.func20, Try.ntmps20
  go_wp2_with fail
  go_loopw [4, 5] (fun b i wr => ∃ (k k2 : Nat) (u : Value), u = b ∧ i = .int .i64 k2 ∧ Hid (k2 = 2 * k) ∧ k ≤ x.size ∧ Hid (wr.ownsRow w.heap.size 5 1 u k (bytesV ((byt x).take k))) ∧ Hid (Below w.heap.size w wr)) (fun _ i _ => 2 * x.size - (intOf i).toNat)
  case atStart => exact ⟨0, 0, _, rfl, rfl, Lib.hid rfl, Nat.zero_le _, ho0, hb0⟩
  case round =>
    clear ho0 hb0
    obtain ⟨k, k2, u, rfl, rfl, HK, hk, HO, HB⟩ := hrel
    obtain ⟨uA, uN, uC, rfl, _⟩ := (Own.of_own HO.out).form
    have hk2 := HK.out
    have hki : IntKind.i64.wrap ((k2 : Int) + 1) = (k2 : Int) + 1 := IntWalk.i64_in _ (by omega)
    have hkj : IntKind.i64.wrap ((k2 : Int) + 2) = (k2 : Int) + 2 := IntWalk.i64_in _ (by omega)
    by_cases hlt : k < x.size
    case neg =>
      have hz : decide ((k2 : Int) + 1 < (t.size : Int)) = false := decide_eq_false (by have := HTS.out; omega)
      have hun := owns_n HO.out
      subst hun
      have hst := str_bytes HO.out
      have hxx : strOfNums ((byt x).take uN) = x := by rw [List.take_of_length_le (by rw [byt_length]; omega), strOfNums_byt]
      rw [hxx] at hst
      clear hk2 hxx
      go_wp2_with fail
      refine (HP.out _).mono ?_
      rintro e w1 ⟨rfl, hb1⟩
      have HB1 := Lib.hid (HB.out.trans (hb1.mono HB.out.size))
      have hst2 := str_bytes (owns_step HO.out hb1)
      have hxx : strOfNums ((byt x).take uN) = x := by rw [List.take_of_length_le (by rw [byt_length]; omega), strOfNums_byt]
      rw [hxx] at hst2
      clear hxx hb1
      go_wp2_with fail
      go_ret2
      exact ⟨rfl, HB1.out⟩
    have hb := byt_get hlt
    have hb255 : x[k].toNat < 256 := x[k].toNat_lt
    obtain ⟨hg1, hg2⟩ := hexL_get hb
    obtain ⟨c, hc⟩ : ∃ c, c = x[k].toNat := ⟨_, rfl⟩
    rw [← hc] at hb255 hg1 hg2 hb
    have hq : ∃ q1 q2 : Nat, q1 < 16 ∧ q2 < 16 ∧ (c : Int) / 16 = q1 ∧ (c : Int) % 16 = q2 := ⟨c / 16, c % 16, by omega, by omega, by omega, by omega⟩
    obtain ⟨q1, q2, hl1, hl2, hq1, hq2⟩ := hq
    obtain ⟨Q1, hQ1, hd1⟩ := hd_nat q1 hl1
    obtain ⟨Q2, hQ2, hd2⟩ := hd_nat q2 hl2
    rw [hq1, hd1, ← HTB.out, ← hk2] at hg1
    rw [hq2, hd2, ← HTB.out, ← hk2] at hg2
    have hlt1 : k2 < t.size := by have := HTS.out; omega
    have hlt2 : k2 + 1 < t.size := by have := HTS.out; omega
    have e1 : t[k2].toNat = Q1 := by have := byt_get hlt1; rw [this] at hg1; injection hg1 with h; omega
    have e2 : t[k2 + 1].toNat = Q2 := by have := byt_get hlt2; rw [this] at hg2; injection hg2 with h; omega
    have hi1 := dig_idx q1 hl1 Q1 hd1
    have hi2 := dig_idx q2 hl2 Q2 hd2
    have HC1 : Hid (∀ W, Calls Try.prog 47 #[.string ⟨#[48, 49, 50, 51, 52, 53, 54, 55, 56, 57, 97, 98, 99, 100, 101, 102]⟩, .int .u8 (Q1 : Int)] W fun e w' => e = .returned (.int .i64 q1) ∧ W = w') := by
      intro W
      have := indexByte_any ⟨#[48, 49, 50, 51, 52, 53, 54, 55, 56, 57, 97, 98, 99, 100, 101, 102]⟩ (Q1 : Int) W
      rw [Int.toNat_natCast, hi1] at this
      exact this
    have HC2 : Hid (∀ W, Calls Try.prog 47 #[.string ⟨#[48, 49, 50, 51, 52, 53, 54, 55, 56, 57, 97, 98, 99, 100, 101, 102]⟩, .int .u8 (Q2 : Int)] W fun e w' => e = .returned (.int .i64 q2) ∧ W = w') := by
      intro W
      have := indexByte_any ⟨#[48, 49, 50, 51, 52, 53, 54, 55, 56, 57, 97, 98, 99, 100, 101, 102]⟩ (Q2 : Int) W
      rw [Int.toNat_natCast, hi2] at this
      exact this
    have hm1 : IntKind.i64.wrap ((q1 : Int) * 16) = (q1 : Int) * 16 := IntWalk.i64_in _ (by omega)
    have hm2 : IntKind.i64.wrap ((q1 : Int) * 16 + (q2 : Int)) = (c : Int) := (IntWalk.i64_in _ (by omega)).trans (by omega)
    have hm3 : IntKind.u8.wrap (c : Int) = (c : Int) := IntWalk.u8_in _ (by omega)
    have hz : decide ((k2 : Int) + 1 < (t.size : Int)) = true := decide_eq_true (by omega)
    have hl3 : (k2 : Int) + 1 < (t.size : Int) := by omega
    have hl4 : (0 : Int) ≤ (k2 : Int) + 1 := by omega
    have hX : Hid ((byt x).take (k + 1) = (byt x).take k ++ [(c : Int)]) := by show _ = _; rw [List.take_add_one, hb]; rfl
    have HCC := Lib.hid hc
    clear hb hg1 hg2 hd1 hd2 hq1 hq2 hi1 hi2 hc hb255 hk2
    go_upto_region 5 with fail
    have HB1 : Hid (Below w.heap.size w ((wr.alloc (.cells #[Value.int .u8 (c : Int)] 5)).drew)) := (HB.out.alloc HB.out.size _).drew
    have HO1 : Hid (((wr.alloc (.cells #[Value.int .u8 (c : Int)] 5)).drew).ownsRow w.heap.size 5 1 (.slice uA uN uC) k (bytesV ((byt x).take k))) := HO.out.alloc _
    have HSC : Hid (SrcOk ((wr.alloc (.cells #[Value.int .u8 (c : Int)] 5)).drew) (.slice (some ⟨wr.heap.size, 0, none⟩) 1 1) 1 1 (bytesV [(c : Int)])) := .inr ⟨⟨wr.heap.size, 0, none⟩, 1, rfl, rfl, news_one wr _⟩
    refine wp_region_held_drew (S := (fun _ => True)) (by kernel_rfl) trivial (fun hHeld => ?_)
    refine wpAnyH_take (i := 0) (oi := ?o0_15) (v := ?v0_15) ?h0_15 (by kernel_rfl) (by kernel_rfl) (by kernel_rfl) ?q0_15 (Or.inl ⟨?z0_15, ?y0_15⟩) (by assumption) ?r0_15
    case h0_15 =>
      simp only [List.getElem?_toArray, List.getElem?_cons_succ, List.getElem?_cons_zero]
      rfl
    case q0_15 => exact fun _ _ _ h => h
    case z0_15 => rfl
    case y0_15 =>
      intro w hSw
      try dsimp only at hSw
      go_simp
      try with_reducible rfl
    try simp only [Act.put, List.setIfInBounds_toArray, List.set_cons_zero, List.set_cons_succ]
    refine wpAnyH_take (i := 1) (oi := ?o1_16) (v := ?v1_16) ?h1_16 (by kernel_rfl) (by kernel_rfl) (by kernel_rfl) ?q1_16 (Or.inl ⟨?z1_16, ?y1_16⟩) (by assumption) ?r1_16
    case h1_16 =>
      simp only [List.getElem?_toArray, List.getElem?_cons_succ, List.getElem?_cons_zero]
      rfl
    case q1_16 => exact fun _ _ _ h => h
    case z1_16 => rfl
    case y1_16 =>
      intro w hSw
      try dsimp only at hSw
      go_simp
      try with_reducible rfl
    try simp only [Act.put, List.setIfInBounds_toArray, List.set_cons_zero, List.set_cons_succ]
    refine wpAnyH_take (i := 2) (oi := ?o2_17) (v := ?v2_17) ?h2_17 (by kernel_rfl) (by kernel_rfl) (by kernel_rfl) ?q2_17 (Or.inl ⟨?z2_17, ?y2_17⟩) (by assumption) ?r2_17
    case h2_17 =>
      simp only [List.getElem?_toArray, List.getElem?_cons_succ, List.getElem?_cons_zero]
      rfl
    case q2_17 => exact fun _ _ _ h => h
    case z2_17 => rfl
    case y2_17 =>
      intro w hSw
      try dsimp only at hSw
      go_simp
      try with_reducible rfl
    try simp only [Act.put, List.setIfInBounds_toArray, List.set_cons_zero, List.set_cons_succ]
    refine wpAnyH_take (i := 3) (oi := ?o3_18) (v := ?v3_18) ?h3_18 (by kernel_rfl) (by kernel_rfl) (by kernel_rfl) ?q3_18 (Or.inl ⟨?z3_18, ?y3_18⟩) (by assumption) ?r3_18
    case h3_18 =>
      simp only [List.getElem?_toArray, List.getElem?_cons_succ, List.getElem?_cons_zero]
      rfl
    case q3_18 => exact fun _ _ _ h => h
    case z3_18 => rfl
    case y3_18 =>
      intro w hSw
      try dsimp only at hSw
      go_simp
      try with_reducible rfl
    try simp only [Act.put, List.setIfInBounds_toArray, List.set_cons_zero, List.set_cons_succ]
    refine wpAnyH_take (i := 6) (oi := ?o6_19) (v := ?v6_19) ?h6_19 (by kernel_rfl) (by kernel_rfl) (by kernel_rfl) ?q6_19 (Or.inl ⟨?z6_19, ?y6_19⟩) (by assumption) ?r6_19
    case h6_19 =>
      simp only [List.getElem?_toArray, List.getElem?_cons_succ, List.getElem?_cons_zero]
      rfl
    case q6_19 => exact fun _ _ _ h => h
    case z6_19 => rfl
    case y6_19 =>
      intro w hSw
      try dsimp only at hSw
      go_simp
      try with_reducible rfl
    try simp only [Act.put, List.setIfInBounds_toArray, List.set_cons_zero, List.set_cons_succ]
    refine wpAnyH_take (i := 7) (oi := ?o7_20) (v := ?v7_20) ?h7_20 (by kernel_rfl) (by kernel_rfl) (by kernel_rfl) ?q7_20 (Or.inl ⟨?z7_20, ?y7_20⟩) (by assumption) ?r7_20
    case h7_20 =>
      simp only [List.getElem?_toArray, List.getElem?_cons_succ, List.getElem?_cons_zero]
      rfl
    case q7_20 => exact fun _ _ _ h => h
    case z7_20 => rfl
    case y7_20 =>
      intro w hSw
      try dsimp only at hSw
      go_simp
      try with_reducible rfl
    try simp only [Act.put, List.setIfInBounds_toArray, List.set_cons_zero, List.set_cons_succ]
    refine wpAnyH_take (i := 8) (oi := ?o8_21) (v := ?v8_21) ?h8_21 (by kernel_rfl) (by kernel_rfl) (by kernel_rfl) ?q8_21 (Or.inl ⟨?z8_21, ?y8_21⟩) (by assumption) ?r8_21
    case h8_21 =>
      simp only [List.getElem?_toArray, List.getElem?_cons_succ, List.getElem?_cons_zero]
      rfl
    case q8_21 => exact fun _ _ _ h => h
    case z8_21 => rfl
    case y8_21 =>
      intro w hSw
      try dsimp only at hSw
      go_simp
      try with_reducible rfl
    try simp only [Act.put, List.setIfInBounds_toArray, List.set_cons_zero, List.set_cons_succ]
    refine wpAnyH_take (i := 9) (oi := ?o9_22) (v := ?v9_22) ?h9_22 (by kernel_rfl) (by kernel_rfl) (by kernel_rfl) ?q9_22 (Or.inl ⟨?z9_22, ?y9_22⟩) (by assumption) ?r9_22
    case h9_22 =>
      simp only [List.getElem?_toArray, List.getElem?_cons_succ, List.getElem?_cons_zero]
      rfl
    case q9_22 => exact fun _ _ _ h => h
    case z9_22 => rfl
    case y9_22 =>
      intro w hSw
      try dsimp only at hSw
      go_simp
      try with_reducible rfl
    try simp only [Act.put, List.setIfInBounds_toArray, List.set_cons_zero, List.set_cons_succ]
    refine wpAnyH_ready (rs := [4]) (by kernel_rfl) (by simp) ?_
    refine AllReadyH.cons (o := ?o4_23) ?h4_23 (fun K hK => ?k4_23) AllReadyH.nil
    case h4_23 =>
      simp only [List.getElem?_toArray, List.getElem?_cons_succ, List.getElem?_cons_zero]
      rfl
    go_simp
    go_at_call 47
    refine (HC1.out _).mono ?_
    rintro e w' ⟨rfl, rfl⟩
    try go_wp2_with fail
    refine hK.out _ _ (by first | exact trivial | go_keep) (fun hHeld23 => ?_)
    clear hK K
    try simp only [Act.put, List.setIfInBounds_toArray, List.set_cons_zero, List.set_cons_succ]
    refine wpAnyH_take (i := 5) (oi := ?o5_24) (v := ?v5_24) ?h5_24 (by kernel_rfl) (by kernel_rfl) (by kernel_rfl) ?q5_24 (Or.inl ⟨?z5_24, ?y5_24⟩) (by assumption) ?r5_24
    case h5_24 =>
      simp only [List.getElem?_toArray, List.getElem?_cons_succ, List.getElem?_cons_zero]
      rfl
    case q5_24 => exact fun _ _ _ h => h
    case z5_24 => rfl
    case y5_24 =>
      intro w hSw
      try dsimp only at hSw
      go_simp
      try with_reducible rfl
    try simp only [Act.put, List.setIfInBounds_toArray, List.set_cons_zero, List.set_cons_succ]
    refine wpAnyH_ready (rs := [10]) (by kernel_rfl) (by simp) ?_
    refine AllReadyH.cons (o := ?o10_25) ?h10_25 (fun K hK => ?k10_25) AllReadyH.nil
    case h10_25 =>
      simp only [List.getElem?_toArray, List.getElem?_cons_succ, List.getElem?_cons_zero]
      rfl
    go_simp
    go_at_call 47
    refine (HC2.out _).mono ?_
    rintro e w' ⟨rfl, rfl⟩
    try go_wp2_with fail
    refine hK.out _ _ (by first | exact trivial | go_keep) (fun hHeld25 => ?_)
    clear hK K
    try simp only [Act.put, List.setIfInBounds_toArray, List.set_cons_zero, List.set_cons_succ]
    refine wpAnyH_take (i := 11) (oi := ?o11_26) (v := ?v11_26) ?h11_26 (by kernel_rfl) (by kernel_rfl) (by kernel_rfl) ?q11_26 (Or.inl ⟨?z11_26, ?y11_26⟩) (by assumption) ?r11_26
    case h11_26 =>
      simp only [List.getElem?_toArray, List.getElem?_cons_succ, List.getElem?_cons_zero]
      rfl
    case q11_26 => exact fun _ _ _ h => h
    case z11_26 => rfl
    case y11_26 =>
      intro w hSw
      try dsimp only at hSw
      go_simp
      try with_reducible rfl
    try simp only [Act.put, List.setIfInBounds_toArray, List.set_cons_zero, List.set_cons_succ]
    refine wpAnyH_take (i := 12) (oi := ?o12_27) (v := ?v12_27) ?h12_27 (by kernel_rfl) (by kernel_rfl) (by kernel_rfl) ?q12_27 (Or.inl ⟨?z12_27, ?y12_27⟩) (by assumption) ?r12_27
    case h12_27 =>
      simp only [List.getElem?_toArray, List.getElem?_cons_succ, List.getElem?_cons_zero]
      rfl
    case q12_27 => exact fun _ _ _ h => h
    case z12_27 => rfl
    case y12_27 =>
      intro w hSw
      try dsimp only at hSw
      go_simp
      try with_reducible rfl
    try simp only [Act.put, List.setIfInBounds_toArray, List.set_cons_zero, List.set_cons_succ]
    refine wpAnyH_ready (rs := [13]) (by kernel_rfl) (by simp) ?_
    refine AllReadyH.cons (o := ?o13_28) ?h13_28 (fun K hK => ?k13_28) AllReadyH.nil
    case h13_28 =>
      simp only [List.getElem?_toArray, List.getElem?_cons_succ, List.getElem?_cons_zero]
      rfl
    go_simp
    refine hK.out _ _ (by first | exact trivial | go_keep) (fun hHeld28 => ?_)
    clear hK K
    try simp only [Act.put, List.setIfInBounds_toArray, List.set_cons_zero, List.set_cons_succ]
    refine wpAnyH_ready (rs := [14]) (by kernel_rfl) (by simp) ?_
    refine AllReadyH.cons (o := ?o14_29) ?h14_29 (fun K hK => ?k14_29) AllReadyH.nil
    case h14_29 =>
      simp only [List.getElem?_toArray, List.getElem?_cons_succ, List.getElem?_cons_zero]
      rfl
    refine step_append_src (by rfl) _ _ 28 (by rfl) w.heap.size 5 i0 (.int .u8 0) 1 1 Try.underlying28 hi hz0 hz1 hz2 rfl (by decide) (.slice uA uN uC) k (bytesV ((byt x).take k)) (by rfl) HO1.out (.slice (some ⟨wr.heap.size, 0, none⟩) 1 1) 1 (bytesV [(c : Int)]) (by rfl) HSC.out (one_bytes _) (by simp only [maxLen]; omega) (by omega) HB1.out.size ?_
    intro v' w6 hown' hgrow _
    have hB5 := HB1.out.grown hgrow HB1.out.size (fun g hg => (HO1.out.lt g hg).1)
    refine hK.out _ _ (by first | exact trivial | go_keep) (fun hHeld29 => ?_)
    clear hK K
    try simp only [Act.put, List.setIfInBounds_toArray, List.set_cons_zero, List.set_cons_succ]
    refine wpAnyH_take (i := 15) (oi := ?o15_30) (v := ?v15_30) ?h15_30 (by kernel_rfl) (by kernel_rfl) (by kernel_rfl) ?q15_30 (Or.inl ⟨?z15_30, ?y15_30⟩) (by assumption) ?r15_30
    case h15_30 =>
      simp only [List.getElem?_toArray, List.getElem?_cons_succ, List.getElem?_cons_zero]
      rfl
    case q15_30 => exact fun _ _ _ h => h
    case z15_30 => rfl
    case y15_30 =>
      intro w hSw
      try dsimp only at hSw
      go_simp
      try with_reducible rfl
    try simp only [Act.put, List.setIfInBounds_toArray, List.set_cons_zero, List.set_cons_succ]
    refine wpAnyH_done (by kernel_rfl) ?_ _
    go_wp2_with fail
    go_roundw
    case rel => exact ⟨k + 1, k2 + 2, _, rfl, by go_num, Lib.hid (by have := HK.out; omega), by omega, Lib.hid (by rw [hX.out, bytesV_append]; exact hown'), Lib.hid hB5⟩
    case measure => have := HK.out; simp [intOf]; omega
end Go.Proofs.Ytlkfaednolmfkaa

