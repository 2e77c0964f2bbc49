/-
  FnLeb: the law's walk (by program: gen_wleb.py).
-/
import Derived.Test.YtlkfaednolmfkaaDrawL
import Derived.Test.YtlkfaednolmfkaaHex
namespace Go.Proofs.Ytlkfaednolmfkaa
open Go.RowKit
set_option linter.unusedVariables false
set_option linter.unusedSimpArgs false
set_option linter.unnecessarySimpa false
set_option maxRecDepth 16000

theorem putFix8 {n : Int} (hn : (Lit.int .i64 n).wf = true) (w : World) : Calls Try.prog 23 #[.int .i64 n, .int .i64 8] w fun e w' => e = .returned (.string (strOfNums (fixB 8 n))) ∧ Below w.heap.size w w' := by
  have hb := wf64 hn
  exact implPutFix_any n 8 (by decide) hb.1 hb.2 w
theorem getFix8 {n : Int} (hn : (Lit.int .i64 n).wf = true) (w : World) : Calls Try.prog 22 #[.string (strOfNums (fixB 8 n))] w fun e w' => e = .returned (.int .i64 n) ∧ w = w' := by
  have hb := wf64 hn
  have h := implGetFix_any (strOfNums (fixB 8 n)) (by rw [strOfNums_size, fixB_len]; decide) w
  rw [fix_back hb.1 hb.2] at h
  exact h
set_option maxHeartbeats 25600000 in
theorem walk_FnLeb (w : World) (v0 : Value) (h0 : ArgB w v0) (v1 : Value) (h1 : ArgB w v1) :
    Calls Try.prog 4 #[v0, v1] w fun e w' => e = .returned (.bool true) ∧ Below w.heap.size w w' := by
  obtain ⟨A, n, c, rfl, hn, hA⟩ := h0
  obtain ⟨A', n', c', rfl, hn', hA'⟩ := h1
  have HA := Lib.hid hA
  have HA' := Lib.hid hA'
  clear hA hA'
  go_enter Try.func4, Try.ntmps4
  go_wp2_with fail
  refine b10Long_any.mono ?_
  rintro e w' ⟨rfl, rfl⟩
  by_cases hlong : 1048576 < n ∨ 1048576 < n'
  case pos =>
    have hd : (decide (1048576 < n) || decide (1048576 < n')) = true := by rw [Bool.or_eq_true, decide_eq_true_eq, decide_eq_true_eq]; exact hlong
    rw [hd]
    go_wp2_with fail
    go_ret
    exact ⟨rfl, Below.refl _ _⟩
  have hd : (decide (1048576 < n) || decide (1048576 < n')) = false := by rw [Bool.or_eq_false_iff, decide_eq_false_iff_not, decide_eq_false_iff_not]; omega
  rw [hd]
  clear hd
  have hn1 : n ≤ 1048576 := by omega
  have hn2 : n' ≤ 1048576 := by omega
  clear hlong hn hn'
  go_wp2_with fail
  refine (DrawPutSleb_any hn1 HA.out).mono ?_
  rintro e w1 ⟨x, hx, rfl, b1⟩
  have HB1 := Lib.hid b1
  have HXW := Lib.hid hx
  have HPS := Lib.hid (implPutSleb_any x hx w1)
  obtain ⟨s, hs⟩ : ∃ s, s = strOfNums (sleb x) := ⟨_, rfl⟩
  have hss : s.size = (sleb x).length := by rw [hs, strOfNums_size]
  have hs10 : s.size ≤ 10 := by rw [hss]; exact sleb_ten hx
  have hT : (⟨#[128, 122]⟩ : ByteArray).size = 2 := rfl
  have HGS : Hid (∀ W, Calls Try.prog 13 #[.string (s ++ ⟨#[128, 122]⟩)] W fun e w' => e = .returned (.tuple #[.int .i64 x, .int .i64 s.size, .bool true]) ∧ Below W.heap.size W w') := by
    intro W
    have h := implGetSleb_any (s ++ ⟨#[128, 122]⟩) (by rw [ByteArray.size_append]; unfold maxLen; omega) W
    have e : getSleb (s ++ ⟨#[128, 122]⟩) = some (x, s.size) := by rw [hss, hs]; exact getSleb_cat hx _
    rw [e] at h
    exact h
  rw [← hs] at HPS
  have HSS := Lib.hid hss
  have hz10 : decide ((10 : Int) < (s.size : Int)) = false := decide_eq_false (by omega)
  clear hs hss hx b1
  go_wp2_with fail
  refine HPS.out.mono ?_
  rintro e w2 ⟨rfl, b2⟩
  have HB2 := Lib.hid (HB1.out.trans (b2.mono HB1.out.size))
  clear b2 HPS HB1
  go_wp2_with fail
  refine (HGS.out w2).mono ?_
  rintro e w3 ⟨rfl, b3⟩
  have HB3 := Lib.hid (HB2.out.trans (b3.mono HB2.out.size))
  clear b3 HGS HB2
  by_cases h0 : 0 ≤ x
  case neg =>
    have hz0 : decide (0 ≤ x) = false := decide_eq_false h0
    clear h0
    go_wp2_with fail
    refine (DrawGetLeb_any hn2 ((HA'.out.below HB3.out (Nat.le_refl _)).more HB3.out.size)).mono ?_
    rintro e w6 ⟨t, ht, rfl, b6⟩
    have HB6 := Lib.hid (HB3.out.trans (b6.mono HB3.out.size))
    have HGT := Lib.hid (fun W => implGetLeb_any t (by unfold maxLen; omega) W)
    clear b6 HB3
    go_wp2_with fail
    refine (HGT.out _).mono ?_
    rintro e w7 ⟨rfl, rfl⟩
    clear HGT
    cases hg : getLeb t with
    | none =>
      rw [show getRes (none : Option (Int × Nat)) = .returned (.tuple #[.int .i64 0, .int .i64 0, .bool false]) from rfl]
      clear hg
      go_wp2_with fail
      go_quiet (fail)
      have HB7 := Lib.hid (below_drewN HB6.out nq)
      go_wp2_with fail
      refine (DrawPutHex_any hn2 ((HA'.out.below HB7.out (Nat.le_refl _)).more HB7.out.size)).mono ?_
      rintro e w8 ⟨z, hz, rfl, b8⟩
      have HB8 := Lib.hid (HB7.out.trans (b8.mono HB7.out.size))
      have HPB := Lib.hid (fun W => implPutBytes_any z (by omega) W)
      have HPH := Lib.hid (fun W => implPutHex_any z (by omega) W)
      obtain ⟨p, hp⟩ : ∃ p, p = putB z := ⟨_, rfl⟩
      have hps : p.size ≤ 20 := by rw [hp]; have := putB_size (s := z) (by omega); omega
      have hT1 : (⟨#[122]⟩ : ByteArray).size = 1 := rfl
      have HGB : Hid (∀ W, Calls Try.prog 18 #[.string (p ++ ⟨#[122]⟩)] W fun e w' => e = .returned (.tuple #[.string z, .int .i64 p.size, .bool true]) ∧ Below W.heap.size W w') := by
        intro W
        have h := implGetBytes_any (p ++ ⟨#[122]⟩) (by rw [ByteArray.size_append]; unfold maxLen; omega) W
        have e : getB (p ++ ⟨#[122]⟩) = some (z, p.size) := by rw [hp]; exact getB_put (by omega)
        rw [e] at h
        exact h
      rw [← hp] at HPB
      obtain ⟨q, hq⟩ : ∃ q, q = strOfNums (hexL (byt z)) := ⟨_, rfl⟩
      have HGH := Lib.hid (fun W => implGetHex_any z q (by omega) hq W)
      rw [← hq] at HPH
      clear hp hq b8
      go_wp2_with fail
      refine (HPB.out _).mono ?_
      rintro e w9 ⟨rfl, b9⟩
      replace HB8 := Lib.hid (HB8.out.trans (b9.mono HB8.out.size))
      clear b9
      go_wp2_with fail
      refine (HGB.out _).mono ?_
      rintro e w10 ⟨rfl, b10⟩
      replace HB8 := Lib.hid (HB8.out.trans (b10.mono HB8.out.size))
      clear b10 HGB
      go_wp2_with fail
      refine (HPH.out _).mono ?_
      rintro e w11 ⟨rfl, b11⟩
      replace HB8 := Lib.hid (HB8.out.trans (b11.mono HB8.out.size))
      clear b11 HPH
      go_wp2_with fail
      refine (HGH.out _).mono ?_
      rintro e w12 ⟨rfl, b12⟩
      replace HB8 := Lib.hid (HB8.out.trans (b12.mono HB8.out.size))
      clear b12 HGH
      go_wp2_with fail
      refine (HPB.out _).mono ?_
      rintro e w13 ⟨rfl, b13⟩
      replace HB8 := Lib.hid (HB8.out.trans (b13.mono HB8.out.size))
      clear b13 HPB
      go_wp2_with fail
      refine (putFix8 HXW.out _).mono ?_
      rintro e w14 ⟨rfl, b14⟩
      replace HB8 := Lib.hid (HB8.out.trans (b14.mono HB8.out.size))
      clear b14
      go_wp2_with fail
      refine (getFix8 HXW.out _).mono ?_
      rintro e w15 ⟨rfl, rfl⟩
      go_wp2_with fail
      go_ret
      exact ⟨rfl, HB8.out⟩
    | some r =>
      obtain ⟨y, k⟩ := r
      obtain ⟨hk1, hk2, hpe, hy0, hy1⟩ := getLeb_some hg
      rw [show getRes (some (y, k)) = .returned (.tuple #[.int .i64 y, .int .i64 k, .bool true]) from rfl]
      have HPL2 := Lib.hid (fun W => implPutLeb_any y hy0 (WalkArith.wf_i64 (by omega)) W)
      rw [hpe] at HPL2
      have hk1' : decide ((k : Int) < 1) = false := decide_eq_false (by omega)
      have hk2' : decide ((t.size : Int) < (k : Int)) = false := decide_eq_false (by omega)
      have hk3 : (k : Int) ≤ (t.size : Int) := by omega
      have hk5 : decide (t.size < k) = false := decide_eq_false (by omega)
      have hk6 : k ≤ t.size := hk2
      have hk4 : (0 : Int) ≤ (k : Int) := by omega
      clear hg hpe hy0 hy1 hk1 hk2
      go_wp2_with fail
      refine wp_region_held_drew (S := (fun _ => True)) (by kernel_rfl) trivial (fun hHeld => ?_)
      refine wpAnyH_take (i := 0) (oi := ?o0_1) (v := ?v0_1) ?h0_1 (by kernel_rfl) (by kernel_rfl) (by kernel_rfl) ?q0_1 (Or.inl ⟨?z0_1, ?y0_1⟩) (by assumption) ?r0_1
      case h0_1 =>
        simp only [List.getElem?_toArray, List.getElem?_cons_succ, List.getElem?_cons_zero]
        rfl
      case q0_1 => exact fun _ _ _ h => h
      case z0_1 => rfl
      case y0_1 =>
        intro w hSw
        try dsimp only at hSw
        go_simp
        try with_reducible rfl
      try simp only [Act.put, List.setIfInBounds_toArray, List.set_cons_zero, List.set_cons_succ]
      refine wpAnyH_take (i := 1) (oi := ?o1_2) (v := ?v1_2) ?h1_2 (by kernel_rfl) (by kernel_rfl) (by kernel_rfl) ?q1_2 (Or.inl ⟨?z1_2, ?y1_2⟩) (by assumption) ?r1_2
      case h1_2 =>
        simp only [List.getElem?_toArray, List.getElem?_cons_succ, List.getElem?_cons_zero]
        rfl
      case q1_2 => exact fun _ _ _ h => h
      case z1_2 => rfl
      case y1_2 =>
        intro w hSw
        try dsimp only at hSw
        go_simp
        try with_reducible rfl
      try simp only [Act.put, List.setIfInBounds_toArray, List.set_cons_zero, List.set_cons_succ]
      refine wpAnyH_take (i := 2) (oi := ?o2_3) (v := ?v2_3) ?h2_3 (by kernel_rfl) (by kernel_rfl) (by kernel_rfl) ?q2_3 (Or.inl ⟨?z2_3, ?y2_3⟩) (by assumption) ?r2_3
      case h2_3 =>
        simp only [List.getElem?_toArray, List.getElem?_cons_succ, List.getElem?_cons_zero]
        rfl
      case q2_3 => exact fun _ _ _ h => h
      case z2_3 => rfl
      case y2_3 =>
        intro w hSw
        try dsimp only at hSw
        go_simp
        try with_reducible rfl
      try simp only [Act.put, List.setIfInBounds_toArray, List.set_cons_zero, List.set_cons_succ]
      refine wpAnyH_take (i := 3) (oi := ?o3_4) (v := ?v3_4) ?h3_4 (by kernel_rfl) (by kernel_rfl) (by kernel_rfl) ?q3_4 (Or.inl ⟨?z3_4, ?y3_4⟩) (by assumption) ?r3_4
      case h3_4 =>
        simp only [List.getElem?_toArray, List.getElem?_cons_succ, List.getElem?_cons_zero]
        rfl
      case q3_4 => exact fun _ _ _ h => h
      case z3_4 => rfl
      case y3_4 =>
        intro w hSw
        try dsimp only at hSw
        go_simp
        try with_reducible rfl
      try simp only [Act.put, List.setIfInBounds_toArray, List.set_cons_zero, List.set_cons_succ]
      refine wpAnyH_take (i := 4) (oi := ?o4_5) (v := ?v4_5) ?h4_5 (by kernel_rfl) (by kernel_rfl) (by kernel_rfl) ?q4_5 (Or.inl ⟨?z4_5, ?y4_5⟩) (by assumption) ?r4_5
      case h4_5 =>
        simp only [List.getElem?_toArray, List.getElem?_cons_succ, List.getElem?_cons_zero]
        rfl
      case q4_5 => exact fun _ _ _ h => h
      case z4_5 => rfl
      case y4_5 =>
        intro w hSw
        try dsimp only at hSw
        go_simp
        try with_reducible rfl
      try simp only [Act.put, List.setIfInBounds_toArray, List.set_cons_zero, List.set_cons_succ]
      refine wpAnyH_take (i := 5) (oi := ?o5_6) (v := ?v5_6) ?h5_6 (by kernel_rfl) (by kernel_rfl) (by kernel_rfl) ?q5_6 (Or.inl ⟨?z5_6, ?y5_6⟩) (by assumption) ?r5_6
      case h5_6 =>
        simp only [List.getElem?_toArray, List.getElem?_cons_succ, List.getElem?_cons_zero]
        rfl
      case q5_6 => exact fun _ _ _ h => h
      case z5_6 => rfl
      case y5_6 =>
        intro w hSw
        try dsimp only at hSw
        go_simp
        try with_reducible rfl
      try simp only [Act.put, List.setIfInBounds_toArray, List.set_cons_zero, List.set_cons_succ]
      refine wpAnyH_take (i := 6) (oi := ?o6_7) (v := ?v6_7) ?h6_7 (by kernel_rfl) (by kernel_rfl) (by kernel_rfl) ?q6_7 (Or.inl ⟨?z6_7, ?y6_7⟩) (by assumption) ?r6_7
      case h6_7 =>
        simp only [List.getElem?_toArray, List.getElem?_cons_succ, List.getElem?_cons_zero]
        rfl
      case q6_7 => exact fun _ _ _ h => h
      case z6_7 => rfl
      case y6_7 =>
        intro w hSw
        try dsimp only at hSw
        go_simp
        try with_reducible rfl
      try simp only [Act.put, List.setIfInBounds_toArray, List.set_cons_zero, List.set_cons_succ]
      refine wpAnyH_take (i := 7) (oi := ?o7_8) (v := ?v7_8) ?h7_8 (by kernel_rfl) (by kernel_rfl) (by kernel_rfl) ?q7_8 (Or.inl ⟨?z7_8, ?y7_8⟩) (by assumption) ?r7_8
      case h7_8 =>
        simp only [List.getElem?_toArray, List.getElem?_cons_succ, List.getElem?_cons_zero]
        rfl
      case q7_8 => exact fun _ _ _ h => h
      case z7_8 => rfl
      case y7_8 =>
        intro w hSw
        try dsimp only at hSw
        go_simp
        try with_reducible rfl
      try simp only [Act.put, List.setIfInBounds_toArray, List.set_cons_zero, List.set_cons_succ]
      refine wpAnyH_take (i := 8) (oi := ?o8_9) (v := ?v8_9) ?h8_9 (by kernel_rfl) (by kernel_rfl) (by kernel_rfl) ?q8_9 (Or.inl ⟨?z8_9, ?y8_9⟩) (by assumption) ?r8_9
      case h8_9 =>
        simp only [List.getElem?_toArray, List.getElem?_cons_succ, List.getElem?_cons_zero]
        rfl
      case q8_9 => exact fun _ _ _ h => h
      case z8_9 => rfl
      case y8_9 =>
        intro w hSw
        try dsimp only at hSw
        go_simp
        try with_reducible rfl
      try simp only [Act.put, List.setIfInBounds_toArray, List.set_cons_zero, List.set_cons_succ]
      refine wpAnyH_take (i := 9) (oi := ?o9_10) (v := ?v9_10) ?h9_10 (by kernel_rfl) (by kernel_rfl) (by kernel_rfl) ?q9_10 (Or.inl ⟨?z9_10, ?y9_10⟩) (by assumption) ?r9_10
      case h9_10 =>
        simp only [List.getElem?_toArray, List.getElem?_cons_succ, List.getElem?_cons_zero]
        rfl
      case q9_10 => exact fun _ _ _ h => h
      case z9_10 => rfl
      case y9_10 =>
        intro w hSw
        try dsimp only at hSw
        go_simp
        try with_reducible rfl
      try simp only [Act.put, List.setIfInBounds_toArray, List.set_cons_zero, List.set_cons_succ]
      refine wpAnyH_take (i := 10) (oi := ?o10_11) (v := ?v10_11) ?h10_11 (by kernel_rfl) (by kernel_rfl) (by kernel_rfl) ?q10_11 (Or.inl ⟨?z10_11, ?y10_11⟩) (by assumption) ?r10_11
      case h10_11 =>
        simp only [List.getElem?_toArray, List.getElem?_cons_succ, List.getElem?_cons_zero]
        rfl
      case q10_11 => exact fun _ _ _ h => h
      case z10_11 => rfl
      case y10_11 =>
        intro w hSw
        try dsimp only at hSw
        go_simp
        try with_reducible rfl
      try simp only [Act.put, List.setIfInBounds_toArray, List.set_cons_zero, List.set_cons_succ]
      refine wpAnyH_take (i := 11) (oi := ?o11_12) (v := ?v11_12) ?h11_12 (by kernel_rfl) (by kernel_rfl) (by kernel_rfl) ?q11_12 (Or.inl ⟨?z11_12, ?y11_12⟩) (by assumption) ?r11_12
      case h11_12 =>
        simp only [List.getElem?_toArray, List.getElem?_cons_succ, List.getElem?_cons_zero]
        rfl
      case q11_12 => exact fun _ _ _ h => h
      case z11_12 => rfl
      case y11_12 =>
        intro w hSw
        try dsimp only at hSw
        go_simp
        try with_reducible rfl
      try simp only [Act.put, List.setIfInBounds_toArray, List.set_cons_zero, List.set_cons_succ]
      refine wpAnyH_take (i := 13) (oi := ?o13_13) (v := ?v13_13) ?h13_13 (by kernel_rfl) (by kernel_rfl) (by kernel_rfl) ?q13_13 (Or.inl ⟨?z13_13, ?y13_13⟩) (by assumption) ?r13_13
      case h13_13 =>
        simp only [List.getElem?_toArray, List.getElem?_cons_succ, List.getElem?_cons_zero]
        rfl
      case q13_13 => exact fun _ _ _ h => h
      case z13_13 => rfl
      case y13_13 =>
        intro w hSw
        try dsimp only at hSw
        go_simp
        try with_reducible rfl
      try simp only [Act.put, List.setIfInBounds_toArray, List.set_cons_zero, List.set_cons_succ]
      refine wpAnyH_take (i := 14) (oi := ?o14_14) (v := ?v14_14) ?h14_14 (by kernel_rfl) (by kernel_rfl) (by kernel_rfl) ?q14_14 (Or.inl ⟨?z14_14, ?y14_14⟩) (by assumption) ?r14_14
      case h14_14 =>
        simp only [List.getElem?_toArray, List.getElem?_cons_succ, List.getElem?_cons_zero]
        rfl
      case q14_14 => exact fun _ _ _ h => h
      case z14_14 => rfl
      case y14_14 =>
        intro w hSw
        try dsimp only at hSw
        go_simp
        try with_reducible rfl
      try simp only [Act.put, List.setIfInBounds_toArray, List.set_cons_zero, List.set_cons_succ]
      refine wpAnyH_take (i := 15) (oi := ?o15_15) (v := ?v15_15) ?h15_15 (by kernel_rfl) (by kernel_rfl) (by kernel_rfl) ?q15_15 (Or.inl ⟨?z15_15, ?y15_15⟩) (by assumption) ?r15_15
      case h15_15 =>
        simp only [List.getElem?_toArray, List.getElem?_cons_succ, List.getElem?_cons_zero]
        rfl
      case q15_15 => exact fun _ _ _ h => h
      case z15_15 => rfl
      case y15_15 =>
        intro w hSw
        try dsimp only at hSw
        go_simp
        try with_reducible rfl
      try simp only [Act.put, List.setIfInBounds_toArray, List.set_cons_zero, List.set_cons_succ]
      refine wpAnyH_ready (rs := [12]) (by kernel_rfl) (by simp) ?_
      refine AllReadyH.cons (o := ?o12_16) ?h12_16 (fun K hK => ?k12_16) AllReadyH.nil
      case h12_16 =>
        simp only [List.getElem?_toArray, List.getElem?_cons_succ, List.getElem?_cons_zero]
        rfl
      go_simp
      go_at_call 14
      refine (HPL2.out _).mono ?_
      rintro e wp ⟨rfl, hbp⟩
      have HB7 := Lib.hid ((HB6.out.drew).trans (hbp.mono HB6.out.size))
      clear hbp
      try go_wp2_with fail
      refine hK.out _ _ (by first | exact trivial | go_keep) (fun hHeld16 => ?_)
      clear hK K
      try simp only [Act.put, List.setIfInBounds_toArray, List.set_cons_zero, List.set_cons_succ]
      refine wpAnyH_take (i := 16) (oi := ?o16_17) (v := ?v16_17) ?h16_17 (by kernel_rfl) (by kernel_rfl) (by kernel_rfl) ?q16_17 (Or.inl ⟨?z16_17, ?y16_17⟩) (by assumption) ?r16_17
      case h16_17 =>
        simp only [List.getElem?_toArray, List.getElem?_cons_succ, List.getElem?_cons_zero]
        rfl
      case q16_17 => exact fun _ _ _ h => h
      case z16_17 => rfl
      case y16_17 =>
        intro w hSw
        try dsimp only at hSw
        go_simp
        try with_reducible rfl
      try simp only [Act.put, List.setIfInBounds_toArray, List.set_cons_zero, List.set_cons_succ]
      refine wpAnyH_take (i := 17) (oi := ?o17_18) (v := ?v17_18) ?h17_18 (by kernel_rfl) (by kernel_rfl) (by kernel_rfl) ?q17_18 (Or.inl ⟨?z17_18, ?y17_18⟩) (by assumption) ?r17_18
      case h17_18 =>
        simp only [List.getElem?_toArray, List.getElem?_cons_succ, List.getElem?_cons_zero]
        rfl
      case q17_18 => exact fun _ _ _ h => h
      case z17_18 => rfl
      case y17_18 =>
        intro w hSw
        try dsimp only at hSw
        go_simp
        try with_reducible rfl
      try simp only [Act.put, List.setIfInBounds_toArray, List.set_cons_zero, List.set_cons_succ]
      refine wpAnyH_take (i := 18) (oi := ?o18_19) (v := ?v18_19) ?h18_19 (by kernel_rfl) (by kernel_rfl) (by kernel_rfl) ?q18_19 (Or.inl ⟨?z18_19, ?y18_19⟩) (by assumption) ?r18_19
      case h18_19 =>
        simp only [List.getElem?_toArray, List.getElem?_cons_succ, List.getElem?_cons_zero]
        rfl
      case q18_19 => exact fun _ _ _ h => h
      case z18_19 => rfl
      case y18_19 =>
        intro w hSw
        try dsimp only at hSw
        go_simp
        try with_reducible rfl
      try simp only [Act.put, List.setIfInBounds_toArray, List.set_cons_zero, List.set_cons_succ]
      refine wpAnyH_done (by kernel_rfl) ?_ _
      go_wp2_with fail
      refine (DrawPutHex_any hn2 ((HA'.out.below HB7.out (Nat.le_refl _)).more HB7.out.size)).mono ?_
      rintro e w8 ⟨z, hz, rfl, b8⟩
      have HB8 := Lib.hid (HB7.out.trans (b8.mono HB7.out.size))
      have HPB := Lib.hid (fun W => implPutBytes_any z (by omega) W)
      have HPH := Lib.hid (fun W => implPutHex_any z (by omega) W)
      obtain ⟨p, hp⟩ : ∃ p, p = putB z := ⟨_, rfl⟩
      have hps : p.size ≤ 20 := by rw [hp]; have := putB_size (s := z) (by omega); omega
      have hT1 : (⟨#[122]⟩ : ByteArray).size = 1 := rfl
      have HGB : Hid (∀ W, Calls Try.prog 18 #[.string (p ++ ⟨#[122]⟩)] W fun e w' => e = .returned (.tuple #[.string z, .int .i64 p.size, .bool true]) ∧ Below W.heap.size W w') := by
        intro W
        have h := implGetBytes_any (p ++ ⟨#[122]⟩) (by rw [ByteArray.size_append]; unfold maxLen; omega) W
        have e : getB (p ++ ⟨#[122]⟩) = some (z, p.size) := by rw [hp]; exact getB_put (by omega)
        rw [e] at h
        exact h
      rw [← hp] at HPB
      obtain ⟨q, hq⟩ : ∃ q, q = strOfNums (hexL (byt z)) := ⟨_, rfl⟩
      have HGH := Lib.hid (fun W => implGetHex_any z q (by omega) hq W)
      rw [← hq] at HPH
      clear hp hq b8
      go_wp2_with fail
      refine (HPB.out _).mono ?_
      rintro e w9 ⟨rfl, b9⟩
      replace HB8 := Lib.hid (HB8.out.trans (b9.mono HB8.out.size))
      clear b9
      go_wp2_with fail
      refine (HGB.out _).mono ?_
      rintro e w10 ⟨rfl, b10⟩
      replace HB8 := Lib.hid (HB8.out.trans (b10.mono HB8.out.size))
      clear b10 HGB
      go_wp2_with fail
      refine (HPH.out _).mono ?_
      rintro e w11 ⟨rfl, b11⟩
      replace HB8 := Lib.hid (HB8.out.trans (b11.mono HB8.out.size))
      clear b11 HPH
      go_wp2_with fail
      refine (HGH.out _).mono ?_
      rintro e w12 ⟨rfl, b12⟩
      replace HB8 := Lib.hid (HB8.out.trans (b12.mono HB8.out.size))
      clear b12 HGH
      go_wp2_with fail
      refine (HPB.out _).mono ?_
      rintro e w13 ⟨rfl, b13⟩
      replace HB8 := Lib.hid (HB8.out.trans (b13.mono HB8.out.size))
      clear b13 HPB
      go_wp2_with fail
      refine (putFix8 HXW.out _).mono ?_
      rintro e w14 ⟨rfl, b14⟩
      replace HB8 := Lib.hid (HB8.out.trans (b14.mono HB8.out.size))
      clear b14
      go_wp2_with fail
      refine (getFix8 HXW.out _).mono ?_
      rintro e w15 ⟨rfl, rfl⟩
      go_wp2_with fail
      go_ret
      exact ⟨rfl, HB8.out⟩
  have hz0 : decide (0 ≤ x) = true := decide_eq_true h0
  have HPL := Lib.hid (fun W => implPutLeb_any x h0 HXW.out W)
  obtain ⟨u, hu⟩ : ∃ u, u = strOfNums (leb x) := ⟨_, rfl⟩
  have hus : u.size = (leb x).length := by rw [hu, strOfNums_size]
  have hle : u.size ≤ s.size := by rw [hus, HSS.out]; exact leb_le_sleb _ (Nat.le_refl _) h0
  have HGL : Hid (∀ W, Calls Try.prog 15 #[.string (u ++ ⟨#[128, 122]⟩)] W fun e w' => e = .returned (.tuple #[.int .i64 x, .int .i64 u.size, .bool true]) ∧ W = w') := by
    intro W
    have h := implGetLeb_any (u ++ ⟨#[128, 122]⟩) (by rw [ByteArray.size_append]; unfold maxLen; omega) W
    have e : getLeb (u ++ ⟨#[128, 122]⟩) = some (x, u.size) := by rw [hus, hu]; exact getLeb_cat h0 HXW.out _
    rw [e] at h
    exact h
  rw [← hu] at HPL
  have hzu : decide ((s.size : Int) < (u.size : Int)) = false := decide_eq_false (by omega)
  have hu10 : u.size ≤ 10 := by omega
  have hzn : decide (s.size < u.size) = false := decide_eq_false (by omega)
  have hle2 : u.size ≤ s.size := hle
  clear hu hus hle h0
  go_wp2_with fail
  refine (HPL.out _).mono ?_
  rintro e w4 ⟨rfl, b4⟩
  replace HB3 := Lib.hid (HB3.out.trans (b4.mono HB3.out.size))
  clear b4 HPL
  go_wp2_with fail
  refine (HGL.out _).mono ?_
  rintro e w5 ⟨rfl, rfl⟩
  clear HGL
  go_wp2_with fail
  refine (DrawGetLeb_any hn2 ((HA'.out.below HB3.out (Nat.le_refl _)).more HB3.out.size)).mono ?_
  rintro e w6 ⟨t, ht, rfl, b6⟩
  have HB6 := Lib.hid (HB3.out.trans (b6.mono HB3.out.size))
  have HGT := Lib.hid (fun W => implGetLeb_any t (by unfold maxLen; omega) W)
  clear b6 HB3
  go_wp2_with fail
  refine (HGT.out _).mono ?_
  rintro e w7 ⟨rfl, rfl⟩
  clear HGT
  cases hg : getLeb t with
  | none =>
    rw [show getRes (none : Option (Int × Nat)) = .returned (.tuple #[.int .i64 0, .int .i64 0, .bool false]) from rfl]
    clear hg
    go_wp2_with fail
    go_quiet (fail)
    have HB7 := Lib.hid (below_drewN HB6.out nq)
    go_wp2_with fail
    refine (DrawPutHex_any hn2 ((HA'.out.below HB7.out (Nat.le_refl _)).more HB7.out.size)).mono ?_
    rintro e w8 ⟨z, hz, rfl, b8⟩
    have HB8 := Lib.hid (HB7.out.trans (b8.mono HB7.out.size))
    have HPB := Lib.hid (fun W => implPutBytes_any z (by omega) W)
    have HPH := Lib.hid (fun W => implPutHex_any z (by omega) W)
    obtain ⟨p, hp⟩ : ∃ p, p = putB z := ⟨_, rfl⟩
    have hps : p.size ≤ 20 := by rw [hp]; have := putB_size (s := z) (by omega); omega
    have hT1 : (⟨#[122]⟩ : ByteArray).size = 1 := rfl
    have HGB : Hid (∀ W, Calls Try.prog 18 #[.string (p ++ ⟨#[122]⟩)] W fun e w' => e = .returned (.tuple #[.string z, .int .i64 p.size, .bool true]) ∧ Below W.heap.size W w') := by
      intro W
      have h := implGetBytes_any (p ++ ⟨#[122]⟩) (by rw [ByteArray.size_append]; unfold maxLen; omega) W
      have e : getB (p ++ ⟨#[122]⟩) = some (z, p.size) := by rw [hp]; exact getB_put (by omega)
      rw [e] at h
      exact h
    rw [← hp] at HPB
    obtain ⟨q, hq⟩ : ∃ q, q = strOfNums (hexL (byt z)) := ⟨_, rfl⟩
    have HGH := Lib.hid (fun W => implGetHex_any z q (by omega) hq W)
    rw [← hq] at HPH
    clear hp hq b8
    go_wp2_with fail
    refine (HPB.out _).mono ?_
    rintro e w9 ⟨rfl, b9⟩
    replace HB8 := Lib.hid (HB8.out.trans (b9.mono HB8.out.size))
    clear b9
    go_wp2_with fail
    refine (HGB.out _).mono ?_
    rintro e w10 ⟨rfl, b10⟩
    replace HB8 := Lib.hid (HB8.out.trans (b10.mono HB8.out.size))
    clear b10 HGB
    go_wp2_with fail
    refine (HPH.out _).mono ?_
    rintro e w11 ⟨rfl, b11⟩
    replace HB8 := Lib.hid (HB8.out.trans (b11.mono HB8.out.size))
    clear b11 HPH
    go_wp2_with fail
    refine (HGH.out _).mono ?_
    rintro e w12 ⟨rfl, b12⟩
    replace HB8 := Lib.hid (HB8.out.trans (b12.mono HB8.out.size))
    clear b12 HGH
    go_wp2_with fail
    refine (HPB.out _).mono ?_
    rintro e w13 ⟨rfl, b13⟩
    replace HB8 := Lib.hid (HB8.out.trans (b13.mono HB8.out.size))
    clear b13 HPB
    go_wp2_with fail
    refine (putFix8 HXW.out _).mono ?_
    rintro e w14 ⟨rfl, b14⟩
    replace HB8 := Lib.hid (HB8.out.trans (b14.mono HB8.out.size))
    clear b14
    go_wp2_with fail
    refine (getFix8 HXW.out _).mono ?_
    rintro e w15 ⟨rfl, rfl⟩
    go_wp2_with fail
    go_ret
    exact ⟨rfl, HB8.out⟩
  | some r =>
    obtain ⟨y, k⟩ := r
    obtain ⟨hk1, hk2, hpe, hy0, hy1⟩ := getLeb_some hg
    rw [show getRes (some (y, k)) = .returned (.tuple #[.int .i64 y, .int .i64 k, .bool true]) from rfl]
    have HPL2 := Lib.hid (fun W => implPutLeb_any y hy0 (WalkArith.wf_i64 (by omega)) W)
    rw [hpe] at HPL2
    have hk1' : decide ((k : Int) < 1) = false := decide_eq_false (by omega)
    have hk2' : decide ((t.size : Int) < (k : Int)) = false := decide_eq_false (by omega)
    have hk3 : (k : Int) ≤ (t.size : Int) := by omega
    have hk5 : decide (t.size < k) = false := decide_eq_false (by omega)
    have hk6 : k ≤ t.size := hk2
    have hk4 : (0 : Int) ≤ (k : Int) := by omega
    clear hg hpe hy0 hy1 hk1 hk2
    go_wp2_with fail
    refine wp_region_held_drew (S := (fun _ => True)) (by kernel_rfl) trivial (fun hHeld => ?_)
    refine wpAnyH_take (i := 0) (oi := ?o0_20) (v := ?v0_20) ?h0_20 (by kernel_rfl) (by kernel_rfl) (by kernel_rfl) ?q0_20 (Or.inl ⟨?z0_20, ?y0_20⟩) (by assumption) ?r0_20
    case h0_20 =>
      simp only [List.getElem?_toArray, List.getElem?_cons_succ, List.getElem?_cons_zero]
      rfl
    case q0_20 => exact fun _ _ _ h => h
    case z0_20 => rfl
    case y0_20 =>
      intro w hSw
      try dsimp only at hSw
      go_simp
      try with_reducible rfl
    try simp only [Act.put, List.setIfInBounds_toArray, List.set_cons_zero, List.set_cons_succ]
    refine wpAnyH_take (i := 1) (oi := ?o1_21) (v := ?v1_21) ?h1_21 (by kernel_rfl) (by kernel_rfl) (by kernel_rfl) ?q1_21 (Or.inl ⟨?z1_21, ?y1_21⟩) (by assumption) ?r1_21
    case h1_21 =>
      simp only [List.getElem?_toArray, List.getElem?_cons_succ, List.getElem?_cons_zero]
      rfl
    case q1_21 => exact fun _ _ _ h => h
    case z1_21 => rfl
    case y1_21 =>
      intro w hSw
      try dsimp only at hSw
      go_simp
      try with_reducible rfl
    try simp only [Act.put, List.setIfInBounds_toArray, List.set_cons_zero, List.set_cons_succ]
    refine wpAnyH_take (i := 2) (oi := ?o2_22) (v := ?v2_22) ?h2_22 (by kernel_rfl) (by kernel_rfl) (by kernel_rfl) ?q2_22 (Or.inl ⟨?z2_22, ?y2_22⟩) (by assumption) ?r2_22
    case h2_22 =>
      simp only [List.getElem?_toArray, List.getElem?_cons_succ, List.getElem?_cons_zero]
      rfl
    case q2_22 => exact fun _ _ _ h => h
    case z2_22 => rfl
    case y2_22 =>
      intro w hSw
      try dsimp only at hSw
      go_simp
      try with_reducible rfl
    try simp only [Act.put, List.setIfInBounds_toArray, List.set_cons_zero, List.set_cons_succ]
    refine wpAnyH_take (i := 3) (oi := ?o3_23) (v := ?v3_23) ?h3_23 (by kernel_rfl) (by kernel_rfl) (by kernel_rfl) ?q3_23 (Or.inl ⟨?z3_23, ?y3_23⟩) (by assumption) ?r3_23
    case h3_23 =>
      simp only [List.getElem?_toArray, List.getElem?_cons_succ, List.getElem?_cons_zero]
      rfl
    case q3_23 => exact fun _ _ _ h => h
    case z3_23 => rfl
    case y3_23 =>
      intro w hSw
      try dsimp only at hSw
      go_simp
      try with_reducible rfl
    try simp only [Act.put, List.setIfInBounds_toArray, List.set_cons_zero, List.set_cons_succ]
    refine wpAnyH_take (i := 4) (oi := ?o4_24) (v := ?v4_24) ?h4_24 (by kernel_rfl) (by kernel_rfl) (by kernel_rfl) ?q4_24 (Or.inl ⟨?z4_24, ?y4_24⟩) (by assumption) ?r4_24
    case h4_24 =>
      simp only [List.getElem?_toArray, List.getElem?_cons_succ, List.getElem?_cons_zero]
      rfl
    case q4_24 => exact fun _ _ _ h => h
    case z4_24 => rfl
    case y4_24 =>
      intro w hSw
      try dsimp only at hSw
      go_simp
      try with_reducible rfl
    try simp only [Act.put, List.setIfInBounds_toArray, List.set_cons_zero, List.set_cons_succ]
    refine wpAnyH_take (i := 5) (oi := ?o5_25) (v := ?v5_25) ?h5_25 (by kernel_rfl) (by kernel_rfl) (by kernel_rfl) ?q5_25 (Or.inl ⟨?z5_25, ?y5_25⟩) (by assumption) ?r5_25
    case h5_25 =>
      simp only [List.getElem?_toArray, List.getElem?_cons_succ, List.getElem?_cons_zero]
      rfl
    case q5_25 => exact fun _ _ _ h => h
    case z5_25 => rfl
    case y5_25 =>
      intro w hSw
      try dsimp only at hSw
      go_simp
      try with_reducible rfl
    try simp only [Act.put, List.setIfInBounds_toArray, List.set_cons_zero, List.set_cons_succ]
    refine wpAnyH_take (i := 6) (oi := ?o6_26) (v := ?v6_26) ?h6_26 (by kernel_rfl) (by kernel_rfl) (by kernel_rfl) ?q6_26 (Or.inl ⟨?z6_26, ?y6_26⟩) (by assumption) ?r6_26
    case h6_26 =>
      simp only [List.getElem?_toArray, List.getElem?_cons_succ, List.getElem?_cons_zero]
      rfl
    case q6_26 => exact fun _ _ _ h => h
    case z6_26 => rfl
    case y6_26 =>
      intro w hSw
      try dsimp only at hSw
      go_simp
      try with_reducible rfl
    try simp only [Act.put, List.setIfInBounds_toArray, List.set_cons_zero, List.set_cons_succ]
    refine wpAnyH_take (i := 7) (oi := ?o7_27) (v := ?v7_27) ?h7_27 (by kernel_rfl) (by kernel_rfl) (by kernel_rfl) ?q7_27 (Or.inl ⟨?z7_27, ?y7_27⟩) (by assumption) ?r7_27
    case h7_27 =>
      simp only [List.getElem?_toArray, List.getElem?_cons_succ, List.getElem?_cons_zero]
      rfl
    case q7_27 => exact fun _ _ _ h => h
    case z7_27 => rfl
    case y7_27 =>
      intro w hSw
      try dsimp only at hSw
      go_simp
      try with_reducible rfl
    try simp only [Act.put, List.setIfInBounds_toArray, List.set_cons_zero, List.set_cons_succ]
    refine wpAnyH_take (i := 8) (oi := ?o8_28) (v := ?v8_28) ?h8_28 (by kernel_rfl) (by kernel_rfl) (by kernel_rfl) ?q8_28 (Or.inl ⟨?z8_28, ?y8_28⟩) (by assumption) ?r8_28
    case h8_28 =>
      simp only [List.getElem?_toArray, List.getElem?_cons_succ, List.getElem?_cons_zero]
      rfl
    case q8_28 => exact fun _ _ _ h => h
    case z8_28 => rfl
    case y8_28 =>
      intro w hSw
      try dsimp only at hSw
      go_simp
      try with_reducible rfl
    try simp only [Act.put, List.setIfInBounds_toArray, List.set_cons_zero, List.set_cons_succ]
    refine wpAnyH_take (i := 9) (oi := ?o9_29) (v := ?v9_29) ?h9_29 (by kernel_rfl) (by kernel_rfl) (by kernel_rfl) ?q9_29 (Or.inl ⟨?z9_29, ?y9_29⟩) (by assumption) ?r9_29
    case h9_29 =>
      simp only [List.getElem?_toArray, List.getElem?_cons_succ, List.getElem?_cons_zero]
      rfl
    case q9_29 => exact fun _ _ _ h => h
    case z9_29 => rfl
    case y9_29 =>
      intro w hSw
      try dsimp only at hSw
      go_simp
      try with_reducible rfl
    try simp only [Act.put, List.setIfInBounds_toArray, List.set_cons_zero, List.set_cons_succ]
    refine wpAnyH_take (i := 10) (oi := ?o10_30) (v := ?v10_30) ?h10_30 (by kernel_rfl) (by kernel_rfl) (by kernel_rfl) ?q10_30 (Or.inl ⟨?z10_30, ?y10_30⟩) (by assumption) ?r10_30
    case h10_30 =>
      simp only [List.getElem?_toArray, List.getElem?_cons_succ, List.getElem?_cons_zero]
      rfl
    case q10_30 => exact fun _ _ _ h => h
    case z10_30 => rfl
    case y10_30 =>
      intro w hSw
      try dsimp only at hSw
      go_simp
      try with_reducible rfl
    try simp only [Act.put, List.setIfInBounds_toArray, List.set_cons_zero, List.set_cons_succ]
    refine wpAnyH_take (i := 11) (oi := ?o11_31) (v := ?v11_31) ?h11_31 (by kernel_rfl) (by kernel_rfl) (by kernel_rfl) ?q11_31 (Or.inl ⟨?z11_31, ?y11_31⟩) (by assumption) ?r11_31
    case h11_31 =>
      simp only [List.getElem?_toArray, List.getElem?_cons_succ, List.getElem?_cons_zero]
      rfl
    case q11_31 => exact fun _ _ _ h => h
    case z11_31 => rfl
    case y11_31 =>
      intro w hSw
      try dsimp only at hSw
      go_simp
      try with_reducible rfl
    try simp only [Act.put, List.setIfInBounds_toArray, List.set_cons_zero, List.set_cons_succ]
    refine wpAnyH_take (i := 13) (oi := ?o13_32) (v := ?v13_32) ?h13_32 (by kernel_rfl) (by kernel_rfl) (by kernel_rfl) ?q13_32 (Or.inl ⟨?z13_32, ?y13_32⟩) (by assumption) ?r13_32
    case h13_32 =>
      simp only [List.getElem?_toArray, List.getElem?_cons_succ, List.getElem?_cons_zero]
      rfl
    case q13_32 => exact fun _ _ _ h => h
    case z13_32 => rfl
    case y13_32 =>
      intro w hSw
      try dsimp only at hSw
      go_simp
      try with_reducible rfl
    try simp only [Act.put, List.setIfInBounds_toArray, List.set_cons_zero, List.set_cons_succ]
    refine wpAnyH_take (i := 14) (oi := ?o14_33) (v := ?v14_33) ?h14_33 (by kernel_rfl) (by kernel_rfl) (by kernel_rfl) ?q14_33 (Or.inl ⟨?z14_33, ?y14_33⟩) (by assumption) ?r14_33
    case h14_33 =>
      simp only [List.getElem?_toArray, List.getElem?_cons_succ, List.getElem?_cons_zero]
      rfl
    case q14_33 => exact fun _ _ _ h => h
    case z14_33 => rfl
    case y14_33 =>
      intro w hSw
      try dsimp only at hSw
      go_simp
      try with_reducible rfl
    try simp only [Act.put, List.setIfInBounds_toArray, List.set_cons_zero, List.set_cons_succ]
    refine wpAnyH_take (i := 15) (oi := ?o15_34) (v := ?v15_34) ?h15_34 (by kernel_rfl) (by kernel_rfl) (by kernel_rfl) ?q15_34 (Or.inl ⟨?z15_34, ?y15_34⟩) (by assumption) ?r15_34
    case h15_34 =>
      simp only [List.getElem?_toArray, List.getElem?_cons_succ, List.getElem?_cons_zero]
      rfl
    case q15_34 => exact fun _ _ _ h => h
    case z15_34 => rfl
    case y15_34 =>
      intro w hSw
      try dsimp only at hSw
      go_simp
      try with_reducible rfl
    try simp only [Act.put, List.setIfInBounds_toArray, List.set_cons_zero, List.set_cons_succ]
    refine wpAnyH_ready (rs := [12]) (by kernel_rfl) (by simp) ?_
    refine AllReadyH.cons (o := ?o12_35) ?h12_35 (fun K hK => ?k12_35) AllReadyH.nil
    case h12_35 =>
      simp only [List.getElem?_toArray, List.getElem?_cons_succ, List.getElem?_cons_zero]
      rfl
    go_simp
    go_at_call 14
    refine (HPL2.out _).mono ?_
    rintro e wp ⟨rfl, hbp⟩
    have HB7 := Lib.hid ((HB6.out.drew).trans (hbp.mono HB6.out.size))
    clear hbp
    try go_wp2_with fail
    refine hK.out _ _ (by first | exact trivial | go_keep) (fun hHeld35 => ?_)
    clear hK K
    try simp only [Act.put, List.setIfInBounds_toArray, List.set_cons_zero, List.set_cons_succ]
    refine wpAnyH_take (i := 16) (oi := ?o16_36) (v := ?v16_36) ?h16_36 (by kernel_rfl) (by kernel_rfl) (by kernel_rfl) ?q16_36 (Or.inl ⟨?z16_36, ?y16_36⟩) (by assumption) ?r16_36
    case h16_36 =>
      simp only [List.getElem?_toArray, List.getElem?_cons_succ, List.getElem?_cons_zero]
      rfl
    case q16_36 => exact fun _ _ _ h => h
    case z16_36 => rfl
    case y16_36 =>
      intro w hSw
      try dsimp only at hSw
      go_simp
      try with_reducible rfl
    try simp only [Act.put, List.setIfInBounds_toArray, List.set_cons_zero, List.set_cons_succ]
    refine wpAnyH_take (i := 17) (oi := ?o17_37) (v := ?v17_37) ?h17_37 (by kernel_rfl) (by kernel_rfl) (by kernel_rfl) ?q17_37 (Or.inl ⟨?z17_37, ?y17_37⟩) (by assumption) ?r17_37
    case h17_37 =>
      simp only [List.getElem?_toArray, List.getElem?_cons_succ, List.getElem?_cons_zero]
      rfl
    case q17_37 => exact fun _ _ _ h => h
    case z17_37 => rfl
    case y17_37 =>
      intro w hSw
      try dsimp only at hSw
      go_simp
      try with_reducible rfl
    try simp only [Act.put, List.setIfInBounds_toArray, List.set_cons_zero, List.set_cons_succ]
    refine wpAnyH_take (i := 18) (oi := ?o18_38) (v := ?v18_38) ?h18_38 (by kernel_rfl) (by kernel_rfl) (by kernel_rfl) ?q18_38 (Or.inl ⟨?z18_38, ?y18_38⟩) (by assumption) ?r18_38
    case h18_38 =>
      simp only [List.getElem?_toArray, List.getElem?_cons_succ, List.getElem?_cons_zero]
      rfl
    case q18_38 => exact fun _ _ _ h => h
    case z18_38 => rfl
    case y18_38 =>
      intro w hSw
      try dsimp only at hSw
      go_simp
      try with_reducible rfl
    try simp only [Act.put, List.setIfInBounds_toArray, List.set_cons_zero, List.set_cons_succ]
    refine wpAnyH_done (by kernel_rfl) ?_ _
    go_wp2_with fail
    refine (DrawPutHex_any hn2 ((HA'.out.below HB7.out (Nat.le_refl _)).more HB7.out.size)).mono ?_
    rintro e w8 ⟨z, hz, rfl, b8⟩
    have HB8 := Lib.hid (HB7.out.trans (b8.mono HB7.out.size))
    have HPB := Lib.hid (fun W => implPutBytes_any z (by omega) W)
    have HPH := Lib.hid (fun W => implPutHex_any z (by omega) W)
    obtain ⟨p, hp⟩ : ∃ p, p = putB z := ⟨_, rfl⟩
    have hps : p.size ≤ 20 := by rw [hp]; have := putB_size (s := z) (by omega); omega
    have hT1 : (⟨#[122]⟩ : ByteArray).size = 1 := rfl
    have HGB : Hid (∀ W, Calls Try.prog 18 #[.string (p ++ ⟨#[122]⟩)] W fun e w' => e = .returned (.tuple #[.string z, .int .i64 p.size, .bool true]) ∧ Below W.heap.size W w') := by
      intro W
      have h := implGetBytes_any (p ++ ⟨#[122]⟩) (by rw [ByteArray.size_append]; unfold maxLen; omega) W
      have e : getB (p ++ ⟨#[122]⟩) = some (z, p.size) := by rw [hp]; exact getB_put (by omega)
      rw [e] at h
      exact h
    rw [← hp] at HPB
    obtain ⟨q, hq⟩ : ∃ q, q = strOfNums (hexL (byt z)) := ⟨_, rfl⟩
    have HGH := Lib.hid (fun W => implGetHex_any z q (by omega) hq W)
    rw [← hq] at HPH
    clear hp hq b8
    go_wp2_with fail
    refine (HPB.out _).mono ?_
    rintro e w9 ⟨rfl, b9⟩
    replace HB8 := Lib.hid (HB8.out.trans (b9.mono HB8.out.size))
    clear b9
    go_wp2_with fail
    refine (HGB.out _).mono ?_
    rintro e w10 ⟨rfl, b10⟩
    replace HB8 := Lib.hid (HB8.out.trans (b10.mono HB8.out.size))
    clear b10 HGB
    go_wp2_with fail
    refine (HPH.out _).mono ?_
    rintro e w11 ⟨rfl, b11⟩
    replace HB8 := Lib.hid (HB8.out.trans (b11.mono HB8.out.size))
    clear b11 HPH
    go_wp2_with fail
    refine (HGH.out _).mono ?_
    rintro e w12 ⟨rfl, b12⟩
    replace HB8 := Lib.hid (HB8.out.trans (b12.mono HB8.out.size))
    clear b12 HGH
    go_wp2_with fail
    refine (HPB.out _).mono ?_
    rintro e w13 ⟨rfl, b13⟩
    replace HB8 := Lib.hid (HB8.out.trans (b13.mono HB8.out.size))
    clear b13 HPB
    go_wp2_with fail
    refine (putFix8 HXW.out _).mono ?_
    rintro e w14 ⟨rfl, b14⟩
    replace HB8 := Lib.hid (HB8.out.trans (b14.mono HB8.out.size))
    clear b14
    go_wp2_with fail
    refine (getFix8 HXW.out _).mono ?_
    rintro e w15 ⟨rfl, rfl⟩
    go_wp2_with fail
    go_ret
    exact ⟨rfl, HB8.out⟩
end Go.Proofs.Ytlkfaednolmfkaa

