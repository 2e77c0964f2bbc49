/-
  FnAlloc: the law's walk (by program: gen_walc.py).
-/
import Derived.Test.YtlppngpafjfjeaaAnyM
import Derived.Test.YtlppngpafjfjeaaGrp
import Derived.Test.YtlppngpafjfjeaaRelI
namespace Go.Proofs.Ytlppngpafjfjeaa
open Go.RowKit
set_option linter.unusedVariables false
set_option linter.unusedSimpArgs false
set_option linter.unnecessarySimpa false
set_option maxRecDepth 16000

theorem freeB_ok {s : ByteArray} {fs : List Block} (h : memOk s fs = true) : freeB s fs = sumZ fs := by
  rw [freeB, if_pos h, sumTo, List.take_length]
  rfl
theorem freeB_rng {s : ByteArray} {fs : List Block} (h : memOk s fs = true) : 0 ≤ freeB s fs ∧ freeB s fs ≤ 16777216 := by
  obtain ⟨h1, h2⟩ := memOk_facts h
  rw [freeB, if_pos h]
  have := sumTo_bound h1 fs.length (Nat.le_refl _)
  omega
theorem alc_plain {s : ByteArray} {fs l : List Block} {z t : Int} {a : Nat} (hm : memOk s fs = true) (hz : 0 < z) (ha : 1 ≤ a) (h : allocR fs z a = some (l, t)) :
    memOk s l = true ∧ 8 ≤ t ∧ t + z ≤ s.size ∧ t % (a : Int) = 0 ∧ memRel ⟨s, l⟩ t z = (⟨s, fs⟩, 0) ∧ memRel ⟨s, fs⟩ t z = (⟨⟨#[]⟩, []⟩, 10) ∧ freeB s l = freeB s fs - z := by
  obtain ⟨hml, _, _⟩ := memOk_alloc hm hz ha h
  have hm2 := (memOk_iff s fs).1 hm
  obtain ⟨i1, i2, i3, i4, i5, i6⟩ := allocR_ok hm2.2 (by omega) hz ha h
  obtain ⟨g1, g2⟩ := alloc_give hm2.2 (by omega) hz ha h
  refine ⟨hml, by omega, i5, i6, ?_, ?_, ?_⟩
  · have hf : freeAt l t z = false := by
      refine List.any_eq_false.2 fun x hx => ?_
      have := g1 x hx
      simp only [Bool.and_eq_true, decide_eq_true_eq]
      have e1 : (⟨t, z⟩ : Block).at_ = t := rfl
      have e2 : (⟨t, z⟩ : Block).size = z := rfl
      omega
    rw [memRel, if_pos hml, if_neg (by omega), if_pos (show 8 ≤ t ∧ 0 ≤ z ∧ t ≤ (s.size : Int) ∧ z ≤ (s.size : Int) - t ∧ freeAt l t z = false from ⟨by omega, by omega, by omega, by omega, hf⟩)]
    show ((⟨s, giveL l ⟨t, z⟩⟩ : Memory), (0 : Int)) = _
    rw [g2]
  · have hf : freeAt fs t z = true := by
      obtain ⟨b, hb, hb1, hb2⟩ := i3 t ⟨by show t ≤ t; omega, by show t < t + z; omega⟩
      refine List.any_eq_true.2 ⟨b, hb, ?_⟩
      simp only [Bool.and_eq_true, decide_eq_true_eq]
      omega
    rw [memRel, if_pos hm, if_neg (by omega), if_neg (fun hh => by have := hh.2.2.2.2; rw [hf] at this; cases this)]
  · rw [freeB_ok hml, freeB_ok hm]
    exact allocR_sum hm2.2 (by omega) hz ha h
set_option maxHeartbeats 25600000 in
theorem walk_FnAlloc (w : World) (v0 : Value) (h0 : ArgB w v0) (v1 : Value) (h1 : ArgB w v1) :
    Calls Try.prog 11 #[v0, v1] w fun e w' => e = .returned (.bool true) ∧ Below w.heap.size w w' := by
  obtain ⟨A, n, c, rfl, hn, hA⟩ := h0
  obtain ⟨A', n', c', rfl, hn', hA'⟩ := h1
  have HA := Lib.hid hA
  clear hA hA'
  go_enter Try.func11, Try.ntmps11
  go_wp2_with fail
  refine b10Long_any.mono ?_
  rintro e w' ⟨rfl, rfl⟩
  by_cases hlong : 1048576 < n ∨ 1048576 < n'
  case pos =>
    have hd : (decide (1048576 < n) || decide (1048576 < n')) = true := by rw [Bool.or_eq_true, decide_eq_true_eq, decide_eq_true_eq]; exact hlong
    rw [hd]
    go_wp2_with fail
    go_ret
    exact ⟨rfl, Below.refl _ _⟩
  have hd : (decide (1048576 < n) || decide (1048576 < n')) = false := by rw [Bool.or_eq_false_iff, decide_eq_false_iff_not, decide_eq_false_iff_not]; omega
  rw [hd]
  clear hd
  have hn1 : n ≤ 1048576 := by omega
  clear hlong hn hn'
  go_wp2_with fail
  refine (DrawAlloc_any hn1 HA.out).mono ?_
  rintro e w0 ⟨s, fs, u, z, al, rfl, hP, hz, hal, b0⟩
  obtain ⟨hs, hw, hl, hi, hLv⟩ := hP
  obtain ⟨A3, n3, c3, rfl⟩ := hLv.form
  obtain ⟨w1, hw1⟩ : ∃ V, V = w0.alloc (.cells #[.string s, .slice A3 n3 c3] 29) := ⟨_, rfl⟩
  have hb1 : Below w0.heap.size w0 w1 := by rw [hw1]; exact (Below.refl _ _).alloc (Nat.le_refl _) _
  have HX5 : Hid (Blk w1 w0.heap.size 29 #[.string s, .slice A3 n3 c3]) := by show Blk _ _ _ _; rw [hw1]; exact Blk.new w0 _ _
  have HB1 := Lib.hid (b0.trans (hb1.mono b0.size))
  have HR1 := Lib.hid (hLv.step hb1).is
  have HCP : Hid (∀ A n c, Value.slice A3 n3 c3 = .slice A n c → n ≤ c) := by
    intro A n c e
    obtain ⟨F, k1, _⟩ := hLv
    rw [e] at k1
    exact hold_cap k1
  have HWF := Lib.hid hw
  have HW1 := Lib.hid hw1
  have hzb := wf64 hz
  have HZ := Lib.hid hz
  clear hw1 hb1 b0 hLv hw hz hal HA
  by_cases hm : memOk s fs = false
  case pos =>
    have HAL := Lib.hid (implAlloc_bad (z := z) (al := al) (by omega) HR1.out HWF.out hm)
    rw [mAlloc_bad hm] at HAL
    clear hm
    go_wp2_with fail
    rw [← HW1.out]
    refine HAL.out.mono ?_
    rintro e w2 ⟨us, rfl, hL, b2⟩
    obtain ⟨A5, n5, c5, hus⟩ := mem_form hL
    subst hus
    go_wp2_with fail
    go_ret
    exact ⟨rfl, (HB1.out.trans (b2.mono HB1.out.size)).alloc (by have := HB1.out.size; have := b2.size; omega) _⟩
  have hm : memOk s fs = true := by simpa using hm
  by_cases hc : z < 0 ∨ alOk al = false
  case pos =>
    have HAL := Lib.hid (implAlloc_rng hm HR1.out HWF.out hc)
    rw [mAlloc_rng hm hc] at HAL
    clear hm hc
    go_wp2_with fail
    rw [← HW1.out]
    refine HAL.out.mono ?_
    rintro e w2 ⟨us, rfl, hL, b2⟩
    obtain ⟨A5, n5, c5, hus⟩ := mem_form hL
    subst hus
    go_wp2_with fail
    go_ret
    exact ⟨rfl, (HB1.out.trans (b2.mono HB1.out.size)).alloc (by have := HB1.out.size; have := b2.size; omega) _⟩
  have hak : alOk al = true := by by_cases h : alOk al = true; exact h; exact absurd (.inr (by simpa using h)) hc
  have hz0 : 0 ≤ z := by by_cases h : z < 0; exact absurd (.inl h) hc; omega
  clear hc
  by_cases hze : z = 0
  case pos =>
    subst hze
    have HAL := Lib.hid (implAlloc_zero hm HR1.out HWF.out hak)
    rw [mAlloc_zero hm hak] at HAL
    have HSM : Hid (sameMem s fs s fs = true) := by show _ = _; simp [sameMem]
    have h5 := HX5.out.cell 0
    have h6 := HX5.out.cell 1
    go_wp2_with fail
    rw [← HW1.out]
    refine HAL.out.mono ?_
    rintro e w2 ⟨us, rfl, hL, b2⟩
    obtain ⟨A5, n5, c5, hus⟩ := mem_form hL
    subst hus
    obtain ⟨_, hL5⟩ := mem_lv hL
    obtain ⟨w3, hw3⟩ : ∃ V, V = w2.alloc (.cells #[.string s, .slice A5 n5 c5] 29) := ⟨_, rfl⟩
    have b3 : Below w2.heap.size w2 w3 := by rw [hw3]; exact (Below.refl _ _).alloc (Nat.le_refl _) _
    have bx8 : Blk w3 w2.heap.size 29 #[.string s, .slice A5 n5 c5] := by rw [hw3]; exact Blk.new w2 _ _
    have bx5 := (HX5.out.step b2).step b3
    have x0 : w3.cell? ⟨w2.heap.size, 0, none⟩ = some (.string s) := bx8.cell 0
    have x1 : w3.cell? ⟨w2.heap.size, 1, none⟩ = some (.slice A5 n5 c5) := bx8.cell 1
    have y0 : w3.cell? ⟨w0.heap.size, 0, none⟩ = some (.string s) := bx5.cell 0
    have y1 : w3.cell? ⟨w0.heap.size, 1, none⟩ = some (.slice A3 n3 c3) := bx5.cell 1
    have HB3 := Lib.hid (HB1.out.trans ((b2.trans (b3.mono b2.size)).mono HB1.out.size))
    have HRA := Lib.hid (hL5.step b3).is
    have HRB := Lib.hid (Rep.more b3.size _ _ ((Rep.more b2.size _ _ (HR1.out.below b2)).below b3))
    have HW3 := Lib.hid hw3
    clear hL hL5 b2 bx8 bx5 h5 h6 b3
    rw [hw3] at x0 x1 y0 y1
    clear hw3
    go_wp2_with fail
    rw [← HW3.out]
    refine (implSame_any (Nat.le_refl _) HRA.out HRB.out).mono ?_
    rintro e w4 ⟨rfl, b4⟩
    rw [HSM.out]
    go_wp2_with fail
    go_ret
    exact ⟨rfl, HB3.out.trans (b4.mono HB3.out.size)⟩
  obtain ⟨a, rfl⟩ : ∃ a : Nat, al = a := ⟨al.toNat, by have := alOk_cases hak; omega⟩
  have hzp : 0 < z := by omega
  have hzq : (z == 0) = false := by simp; omega
  have HAL := Lib.hid (implAlloc_all hm HR1.out HWF.out hak HZ.out hzp HCP.out)
  rw [mAlloc_all hm hak hzp] at HAL
  cases hres : allocR fs z a with
  | none =>
    rw [allocM_none hres] at HAL
    clear hres hm hak hze hzp hzq
    go_wp2_with fail
    rw [← HW1.out]
    refine HAL.out.mono ?_
    rintro e w2 ⟨us, rfl, hL, b2⟩
    obtain ⟨A5, n5, c5, hus⟩ := mem_form hL
    subst hus
    go_wp2_with fail
    go_ret
    exact ⟨rfl, (HB1.out.trans (b2.mono HB1.out.size)).alloc (by have := HB1.out.size; have := b2.size; omega) _⟩
  | some r =>
    obtain ⟨l, t⟩ := r
    rw [allocM_some hres] at HAL
    have ha1 : 1 ≤ a := by have := alOk_cases hak; omega
    have ha8 : a ≤ 8 := by have := alOk_cases hak; omega
    obtain ⟨p1, p2, p3, p4, p5, p6, p7⟩ := alc_plain hm hzp ha1 hres
    have hss := (memF hm).size
    obtain ⟨T, rfl⟩ : ∃ T : Nat, t = T := ⟨t.toNat, by omega⟩
    have HP1 := Lib.hid p1
    have HP5 := Lib.hid p5
    have HP6 := Lib.hid p6
    have HP7 := Lib.hid p7
    have HM := Lib.hid hm
    have hfr := freeB_rng hm
    have hTw : (Lit.int .i64 (T : Int)).wf = true := WalkArith.wf_i64 (by omega)
    have hT8 : decide ((8 : Int) ≤ (T : Int)) = true := decide_eq_true p2
    have hT8n : 8 ≤ T := by omega
    have hk0 : (a : Int) ≠ 0 := by omega
    have hk1 : ((a : Int) == 0) = false := by simpa using hk0
    have hk3 : ((a : Int) == -1) = false := by simp
    have hk4 : ¬ a = 0 := by omega
    have hr2 : (T : Int) % (a : Int) = 0 := p4
    have hr3 : T % a = 0 := by omega
    have hr1 : (T : Int).tmod (a : Int) = 0 := by rw [Int.tmod_eq_emod_of_nonneg (by omega)]; exact p4
    clear hres hak hze hz0 p1 p4 p5 p6 p7 hm
    go_wp2_with fail
    rw [← HW1.out]
    refine HAL.out.mono ?_
    rintro e w2 ⟨us, rfl, hL, b2⟩
    obtain ⟨A5, n5, c5, hus⟩ := mem_form hL
    simp only at hus
    subst hus
    obtain ⟨_, hL5⟩ := mem_lv hL
    obtain ⟨w3, hw3⟩ : ∃ V, V = w2.alloc (.cells #[.string s, .slice A5 n5 c5] 29) := ⟨_, rfl⟩
    have b3 : Below w2.heap.size w2 w3 := by rw [hw3]; exact (Below.refl _ _).alloc (Nat.le_refl _) _
    have bx8 : Blk w3 w2.heap.size 29 #[.string s, .slice A5 n5 c5] := by rw [hw3]; exact Blk.new w2 _ _
    have HX8 := Lib.hid bx8
    have HX53 := Lib.hid ((HX5.out.step b2).step b3)
    have HB3 := Lib.hid (HB1.out.trans ((b2.trans (b3.mono b2.size)).mono HB1.out.size))
    have HRX := Lib.hid (hL5.step b3).is
    have HRM := Lib.hid (Rep.more b3.size _ _ ((Rep.more b2.size _ _ (HR1.out.below b2)).below b3))
    have HCX : Hid (∀ A n c, Value.slice A5 n5 c5 = .slice A n c → n ≤ c) := by
      intro A n c e
      obtain ⟨F, k1, _⟩ := hL5
      rw [e] at k1
      exact hold_cap k1
    have HRL := Lib.hid (implRel_all HP1.out HRX.out (blk_wf (memF HP1.out)) hTw HZ.out (by omega))
    rw [HP5.out] at HRL
    have HW3 := Lib.hid hw3
    have x0 : w3.cell? ⟨w2.heap.size, 0, none⟩ = some (.string s) := bx8.cell 0
    have x1 : w3.cell? ⟨w2.heap.size, 1, none⟩ = some (.slice A5 n5 c5) := bx8.cell 1
    clear hL hL5 b2 bx8 b3 HX5 HR1 HB1 HAL HW1
    rw [hw3] at x0 x1
    clear hw3
    go_wp2_with fail
    rw [← HW3.out]
    refine HRL.out.mono ?_
    rintro e w4 ⟨us, rfl, hL, b4⟩
    obtain ⟨A6, n6, c6, hus⟩ := mem_form hL
    simp only at hus
    subst hus
    obtain ⟨_, hL6⟩ := mem_lv hL
    obtain ⟨w5, hw5⟩ : ∃ V, V = w4.alloc (.cells #[.string s, .slice A6 n6 c6] 29) := ⟨_, rfl⟩
    have b5 : Below w4.heap.size w4 w5 := by rw [hw5]; exact (Below.refl _ _).alloc (Nat.le_refl _) _
    have bx11 : Blk w5 w4.heap.size 29 #[.string s, .slice A6 n6 c6] := by rw [hw5]; exact Blk.new w4 _ _
    have HX11 := Lib.hid bx11
    have HX55 := Lib.hid ((HX53.out.step b4).step b5)
    have HX85 := Lib.hid ((HX8.out.step b4).step b5)
    have HB5 := Lib.hid (HB3.out.trans ((b4.trans (b5.mono b4.size)).mono HB3.out.size))
    have HRY := Lib.hid (hL6.step b5).is
    have HRX5 := Lib.hid (Rep.more b5.size _ _ ((Rep.more b4.size _ _ (HRX.out.below b4)).below b5))
    have HRM5 := Lib.hid (Rep.more b5.size _ _ ((Rep.more b4.size _ _ (HRM.out.below b4)).below b5))
    have HRL2 := Lib.hid (implRel_all HM.out HRY.out HWF.out hTw HZ.out (by omega))
    rw [HP6.out] at HRL2
    have HW5 := Lib.hid hw5
    have x0 : w5.cell? ⟨w4.heap.size, 0, none⟩ = some (.string s) := bx11.cell 0
    have x1 : w5.cell? ⟨w4.heap.size, 1, none⟩ = some (.slice A6 n6 c6) := bx11.cell 1
    clear hL hL6 b4 bx11 b5 HX8 HX53 HB3 HRX HRM HRL HW3
    rw [hw5] at x0 x1
    clear hw5
    go_wp2_with fail
    rw [← HW5.out]
    refine HRL2.out.mono ?_
    rintro e w6 ⟨us, rfl, hL, b6⟩
    obtain ⟨A7, n7, c7, hus⟩ := mem_form hL
    simp only at hus
    subst hus
    obtain ⟨w7, hw7⟩ : ∃ V, V = w6.alloc (.cells #[.string ⟨#[]⟩, .slice A7 n7 c7] 29) := ⟨_, rfl⟩
    have b7 : Below w6.heap.size w6 w7 := by rw [hw7]; exact (Below.refl _ _).alloc (Nat.le_refl _) _
    have b57 := b6.trans (b7.mono b6.size)
    have HB7 := Lib.hid (HB5.out.trans (b57.mono HB5.out.size))
    have HX5 := Lib.hid (HX55.out.step b57)
    have HX8 := Lib.hid (HX85.out.step b57)
    have HX1 := Lib.hid (HX11.out.step b57)
    have HRY7 := Lib.hid (Rep.more b57.size _ _ (HRY.out.below b57))
    have HRX7 := Lib.hid (Rep.more b57.size _ _ (HRX5.out.below b57))
    have HRM7 := Lib.hid (Rep.more b57.size _ _ (HRM5.out.below b57))
    have HW7 := Lib.hid hw7
    obtain ⟨F, hF⟩ : ∃ F, F = freeB s fs := ⟨_, rfl⟩
    have HMO : Hid (∀ W, Below w7.heap.size w7 W → Calls Try.prog 17 #[.agg #[.string s, .slice A5 n5 c5]] W fun e w' => e = .returned (.bool true) ∧ Below W.heap.size W w') := fun W hW => by
      have h := specMemoryOk_any (s := s) (by unfold maxLen; omega) hW.size (HRX7.out.below hW) (blk_wf (memF HP1.out))
      rw [HP1.out] at h
      exact h
    have HFX : Hid (∀ W, Below w7.heap.size w7 W → Calls Try.prog 20 #[.agg #[.string s, .slice A5 n5 c5]] W fun e w' => e = .returned (.int .i64 (F - z)) ∧ Below W.heap.size W w') := fun W hW => by
      have h := implFree_any (s := s) (by unfold maxLen; omega) hW.size (HRX7.out.below hW) (blk_wf (memF HP1.out))
      rw [HP7.out, ← hF] at h
      exact h
    have HFM : Hid (∀ W, Below w7.heap.size w7 W → Calls Try.prog 20 #[.agg #[.string s, .slice A3 n3 c3]] W fun e w' => e = .returned (.int .i64 F) ∧ Below W.heap.size W w') := fun W hW => by
      have h := implFree_any (s := s) (by unfold maxLen; omega) hW.size (HRM7.out.below hW) HWF.out
      rw [← hF] at h
      exact h
    have HSM : Hid (∀ W, Below w7.heap.size w7 W → Calls Try.prog 13 #[.agg #[.string s, .slice A6 n6 c6], .agg #[.string s, .slice A3 n3 c3]] W fun e w' => e = .returned (.bool true) ∧ Below W.heap.size W w') := fun W hW => by
      have h := specSame_any (s := s) (t := s) hW.size (HRY7.out.below hW) (HRM7.out.below hW)
      rw [show sameMem s fs s fs = true by simp [sameMem]] at h
      exact h
    have hsub : IntKind.i64.wrap (F - z) = F - z := IntWalk.i64_in _ (by omega)
    clear hL b6 hw7 b7 b57 HX55 HX85 HX11 HB5 HRY HRX5 HRM5 HRL2 HW5 x0 x1 hF HRY7 HRX7 HRM7 HP1 HP5 HP6 HP7 HM hfr
    go_upto_region 11 with fail
    rw [← HW7.out]
    refine wp_region_held_drew (S := (fun w' => w'.cell? ⟨w0.heap.size, 0, none⟩ = some (.string s) ∧ w'.cell? ⟨w0.heap.size, 1, none⟩ = some (.slice A3 n3 c3) ∧ w'.cell? ⟨w2.heap.size, 0, none⟩ = some (.string s) ∧ w'.cell? ⟨w2.heap.size, 1, none⟩ = some (.slice A5 n5 c5) ∧ w'.cell? ⟨w4.heap.size, 0, none⟩ = some (.string s) ∧ w'.cell? ⟨w4.heap.size, 1, none⟩ = some (.slice A6 n6 c6))) (by kernel_rfl) ⟨HX5.out.cell 0, HX5.out.cell 1, HX8.out.cell 0, HX8.out.cell 1, HX1.out.cell 0, HX1.out.cell 1⟩ (fun hHeld => ?_)
    refine wpAnyH_take (i := 0) (oi := ?o0_1) (v := ?v0_1) ?h0_1 (by kernel_rfl) (by kernel_rfl) (by kernel_rfl) ?q0_1 (Or.inl ⟨?z0_1, ?y0_1⟩) (by assumption) ?r0_1
    case h0_1 =>
      simp only [List.getElem?_toArray, List.getElem?_cons_succ, List.getElem?_cons_zero]
      rfl
    case q0_1 => exact fun _ _ _ h => h
    case z0_1 => rfl
    case y0_1 =>
      intro w hSw
      try dsimp only at hSw
      go_simp
      try with_reducible rfl
    try simp only [Act.put, List.setIfInBounds_toArray, List.set_cons_zero, List.set_cons_succ]
    refine wpAnyH_take (i := 1) (oi := ?o1_2) (v := ?v1_2) ?h1_2 (by kernel_rfl) (by kernel_rfl) (by kernel_rfl) ?q1_2 (Or.inl ⟨?z1_2, ?y1_2⟩) (by assumption) ?r1_2
    case h1_2 =>
      simp only [List.getElem?_toArray, List.getElem?_cons_succ, List.getElem?_cons_zero]
      rfl
    case q1_2 => exact fun _ _ _ h => h
    case z1_2 => rfl
    case y1_2 =>
      intro w hSw
      try dsimp only at hSw
      go_simp
      try with_reducible rfl
    try simp only [Act.put, List.setIfInBounds_toArray, List.set_cons_zero, List.set_cons_succ]
    refine wpAnyH_take (i := 2) (oi := ?o2_3) (v := ?v2_3) ?h2_3 (by kernel_rfl) (by kernel_rfl) (by kernel_rfl) ?q2_3 (Or.inl ⟨?z2_3, ?y2_3⟩) (by assumption) ?r2_3
    case h2_3 =>
      simp only [List.getElem?_toArray, List.getElem?_cons_succ, List.getElem?_cons_zero]
      rfl
    case q2_3 => exact fun _ _ _ h => h
    case z2_3 => rfl
    case y2_3 =>
      intro w hSw
      try dsimp only at hSw
      go_simp
      try with_reducible rfl
    try simp only [Act.put, List.setIfInBounds_toArray, List.set_cons_zero, List.set_cons_succ]
    refine wpAnyH_take (i := 3) (oi := ?o3_4) (v := ?v3_4) ?h3_4 (by kernel_rfl) (by kernel_rfl) (by kernel_rfl) ?q3_4 (Or.inl ⟨?z3_4, ?y3_4⟩) (by assumption) ?r3_4
    case h3_4 =>
      simp only [List.getElem?_toArray, List.getElem?_cons_succ, List.getElem?_cons_zero]
      rfl
    case q3_4 => exact fun _ _ _ h => h
    case z3_4 => rfl
    case y3_4 =>
      intro w hSw
      try dsimp only at hSw
      go_simp
      try with_reducible rfl
    try simp only [Act.put, List.setIfInBounds_toArray, List.set_cons_zero, List.set_cons_succ]
    refine wpAnyH_take (i := 4) (oi := ?o4_5) (v := ?v4_5) ?h4_5 (by kernel_rfl) (by kernel_rfl) (by kernel_rfl) ?q4_5 (Or.inl ⟨?z4_5, ?y4_5⟩) (by assumption) ?r4_5
    case h4_5 =>
      simp only [List.getElem?_toArray, List.getElem?_cons_succ, List.getElem?_cons_zero]
      rfl
    case q4_5 => exact fun _ _ _ h => h
    case z4_5 => rfl
    case y4_5 =>
      intro w hSw
      try dsimp only at hSw
      go_simp
      try with_reducible rfl
    try simp only [Act.put, List.setIfInBounds_toArray, List.set_cons_zero, List.set_cons_succ]
    refine wpAnyH_take (i := 5) (oi := ?o5_6) (v := ?v5_6) ?h5_6 (by kernel_rfl) (by kernel_rfl) (by kernel_rfl) ?q5_6 (Or.inl ⟨?z5_6, ?y5_6⟩) (by assumption) ?r5_6
    case h5_6 =>
      simp only [List.getElem?_toArray, List.getElem?_cons_succ, List.getElem?_cons_zero]
      rfl
    case q5_6 => exact fun _ _ _ h => h
    case z5_6 => rfl
    case y5_6 =>
      intro w hSw
      try dsimp only at hSw
      go_simp
      try with_reducible rfl
    try simp only [Act.put, List.setIfInBounds_toArray, List.set_cons_zero, List.set_cons_succ]
    refine wpAnyH_take (i := 6) (oi := ?o6_7) (v := ?v6_7) ?h6_7 (by kernel_rfl) (by kernel_rfl) (by kernel_rfl) ?q6_7 (Or.inl ⟨?z6_7, ?y6_7⟩) (by assumption) ?r6_7
    case h6_7 =>
      simp only [List.getElem?_toArray, List.getElem?_cons_succ, List.getElem?_cons_zero]
      rfl
    case q6_7 => exact fun _ _ _ h => h
    case z6_7 => rfl
    case y6_7 =>
      intro w hSw
      try dsimp only at hSw
      go_simp
      try with_reducible rfl
    try simp only [Act.put, List.setIfInBounds_toArray, List.set_cons_zero, List.set_cons_succ]
    refine wpAnyH_take (i := 7) (oi := ?o7_8) (v := ?v7_8) ?h7_8 (by kernel_rfl) (by kernel_rfl) (by kernel_rfl) ?q7_8 (Or.inl ⟨?z7_8, ?y7_8⟩) (by assumption) ?r7_8
    case h7_8 =>
      simp only [List.getElem?_toArray, List.getElem?_cons_succ, List.getElem?_cons_zero]
      rfl
    case q7_8 => exact fun _ _ _ h => h
    case z7_8 => rfl
    case y7_8 =>
      intro w hSw
      try dsimp only at hSw
      go_simp
      try with_reducible rfl
    try simp only [Act.put, List.setIfInBounds_toArray, List.set_cons_zero, List.set_cons_succ]
    refine wpAnyH_take (i := 8) (oi := ?o8_9) (v := ?v8_9) ?h8_9 (by kernel_rfl) (by kernel_rfl) (by kernel_rfl) ?q8_9 (Or.inl ⟨?z8_9, ?y8_9⟩) (by assumption) ?r8_9
    case h8_9 =>
      simp only [List.getElem?_toArray, List.getElem?_cons_succ, List.getElem?_cons_zero]
      rfl
    case q8_9 => exact fun _ _ _ h => h
    case z8_9 => rfl
    case y8_9 =>
      intro w hSw
      try dsimp only at hSw
      go_simp
      try with_reducible rfl
    try simp only [Act.put, List.setIfInBounds_toArray, List.set_cons_zero, List.set_cons_succ]
    refine wpAnyH_take (i := 9) (oi := ?o9_10) (v := ?v9_10) ?h9_10 (by kernel_rfl) (by kernel_rfl) (by kernel_rfl) ?q9_10 (Or.inl ⟨?z9_10, ?y9_10⟩) (by assumption) ?r9_10
    case h9_10 =>
      simp only [List.getElem?_toArray, List.getElem?_cons_succ, List.getElem?_cons_zero]
      rfl
    case q9_10 => exact fun _ _ _ h => h
    case z9_10 => rfl
    case y9_10 =>
      intro w hSw
      try dsimp only at hSw
      go_simp
      try with_reducible rfl
    try simp only [Act.put, List.setIfInBounds_toArray, List.set_cons_zero, List.set_cons_succ]
    refine wpAnyH_ready (rs := [10]) (by kernel_rfl) (by simp) ?_
    refine AllReadyH.cons (o := ?o10_11) ?h10_11 (fun K hK => ?k10_11) AllReadyH.nil
    case h10_11 =>
      simp only [List.getElem?_toArray, List.getElem?_cons_succ, List.getElem?_cons_zero]
      rfl
    go_simp
    go_at_call 17
    refine (HMO.out _ ((Below.refl w7.heap.size w7).drew)).mono ?_
    rintro e wa ⟨rfl, bwa⟩
    have HB_wa : Hid (Below w7.heap.size w7 wa) := ((Below.refl w7.heap.size w7).drew).trans (bwa.mono ((Below.refl w7.heap.size w7).drew).size)
    clear bwa
    try go_wp2_with fail
    refine hK.out _ _ (by first | exact ⟨(HX5.out.step HB_wa.out).cell 0, (HX5.out.step HB_wa.out).cell 1, (HX8.out.step HB_wa.out).cell 0, (HX8.out.step HB_wa.out).cell 1, (HX1.out.step HB_wa.out).cell 0, (HX1.out.step HB_wa.out).cell 1⟩ | go_keep) (fun hHeld11 => ?_)
    clear hK K
    try simp only [Act.put, List.setIfInBounds_toArray, List.set_cons_zero, List.set_cons_succ]
    refine wpAnyH_take (i := 11) (oi := ?o11_12) (v := ?v11_12) ?h11_12 (by kernel_rfl) (by kernel_rfl) (by kernel_rfl) ?q11_12 (Or.inl ⟨?z11_12, ?y11_12⟩) (by assumption) ?r11_12
    case h11_12 =>
      simp only [List.getElem?_toArray, List.getElem?_cons_succ, List.getElem?_cons_zero]
      rfl
    case q11_12 => exact fun _ _ _ h => h
    case z11_12 => rfl
    case y11_12 =>
      intro w hSw
      try dsimp only at hSw
      go_simp
      try with_reducible rfl
    try simp only [Act.put, List.setIfInBounds_toArray, List.set_cons_zero, List.set_cons_succ]
    refine wpAnyH_take (i := 12) (oi := ?o12_13) (v := ?v12_13) ?h12_13 (by kernel_rfl) (by kernel_rfl) (by kernel_rfl) ?q12_13 (Or.inl ⟨?z12_13, ?y12_13⟩) (by assumption) ?r12_13
    case h12_13 =>
      simp only [List.getElem?_toArray, List.getElem?_cons_succ, List.getElem?_cons_zero]
      rfl
    case q12_13 => exact fun _ _ _ h => h
    case z12_13 => rfl
    case y12_13 =>
      intro w hSw
      try dsimp only at hSw
      go_simp
      try with_reducible rfl
    try simp only [Act.put, List.setIfInBounds_toArray, List.set_cons_zero, List.set_cons_succ]
    refine wpAnyH_take (i := 13) (oi := ?o13_14) (v := ?v13_14) ?h13_14 (by kernel_rfl) (by kernel_rfl) (by kernel_rfl) ?q13_14 (Or.inl ⟨?z13_14, ?y13_14⟩) (by assumption) ?r13_14
    case h13_14 =>
      simp only [List.getElem?_toArray, List.getElem?_cons_succ, List.getElem?_cons_zero]
      rfl
    case q13_14 => exact fun _ _ _ h => h
    case z13_14 => rfl
    case y13_14 =>
      intro w hSw
      try dsimp only at hSw
      go_simp
      try with_reducible rfl
    try simp only [Act.put, List.setIfInBounds_toArray, List.set_cons_zero, List.set_cons_succ]
    refine wpAnyH_take (i := 14) (oi := ?o14_15) (v := ?v14_15) ?h14_15 (by kernel_rfl) (by kernel_rfl) (by kernel_rfl) ?q14_15 (Or.inl ⟨?z14_15, ?y14_15⟩) (by assumption) ?r14_15
    case h14_15 =>
      simp only [List.getElem?_toArray, List.getElem?_cons_succ, List.getElem?_cons_zero]
      rfl
    case q14_15 => exact fun _ _ _ h => h
    case z14_15 => rfl
    case y14_15 =>
      intro w hSw
      try dsimp only at hSw
      go_simp
      try with_reducible rfl
    try simp only [Act.put, List.setIfInBounds_toArray, List.set_cons_zero, List.set_cons_succ]
    refine wpAnyH_take (i := 15) (oi := ?o15_16) (v := ?v15_16) ?h15_16 (by kernel_rfl) (by kernel_rfl) (by kernel_rfl) ?q15_16 (Or.inl ⟨?z15_16, ?y15_16⟩) (by assumption) ?r15_16
    case h15_16 =>
      simp only [List.getElem?_toArray, List.getElem?_cons_succ, List.getElem?_cons_zero]
      rfl
    case q15_16 => exact fun _ _ _ h => h
    case z15_16 => rfl
    case y15_16 =>
      intro w hSw
      try dsimp only at hSw
      go_simp
      try with_reducible rfl
    try simp only [Act.put, List.setIfInBounds_toArray, List.set_cons_zero, List.set_cons_succ]
    refine wpAnyH_take (i := 16) (oi := ?o16_17) (v := ?v16_17) ?h16_17 (by kernel_rfl) (by kernel_rfl) (by kernel_rfl) ?q16_17 (Or.inl ⟨?z16_17, ?y16_17⟩) (by assumption) ?r16_17
    case h16_17 =>
      simp only [List.getElem?_toArray, List.getElem?_cons_succ, List.getElem?_cons_zero]
      rfl
    case q16_17 => exact fun _ _ _ h => h
    case z16_17 => rfl
    case y16_17 =>
      intro w hSw
      try dsimp only at hSw
      go_simp
      try with_reducible rfl
    try simp only [Act.put, List.setIfInBounds_toArray, List.set_cons_zero, List.set_cons_succ]
    refine wpAnyH_take (i := 17) (oi := ?o17_18) (v := ?v17_18) ?h17_18 (by kernel_rfl) (by kernel_rfl) (by kernel_rfl) ?q17_18 (Or.inl ⟨?z17_18, ?y17_18⟩) (by assumption) ?r17_18
    case h17_18 =>
      simp only [List.getElem?_toArray, List.getElem?_cons_succ, List.getElem?_cons_zero]
      rfl
    case q17_18 => exact fun _ _ _ h => h
    case z17_18 => rfl
    case y17_18 =>
      intro w hSw
      try dsimp only at hSw
      go_simp
      try with_reducible rfl
    try simp only [Act.put, List.setIfInBounds_toArray, List.set_cons_zero, List.set_cons_succ]
    refine wpAnyH_take (i := 18) (oi := ?o18_19) (v := ?v18_19) ?h18_19 (by kernel_rfl) (by kernel_rfl) (by kernel_rfl) ?q18_19 (Or.inl ⟨?z18_19, ?y18_19⟩) (by assumption) ?r18_19
    case h18_19 =>
      simp only [List.getElem?_toArray, List.getElem?_cons_succ, List.getElem?_cons_zero]
      rfl
    case q18_19 => exact fun _ _ _ h => h
    case z18_19 => rfl
    case y18_19 =>
      intro w hSw
      try dsimp only at hSw
      go_simp
      try with_reducible rfl
    try simp only [Act.put, List.setIfInBounds_toArray, List.set_cons_zero, List.set_cons_succ]
    refine wpAnyH_take (i := 19) (oi := ?o19_20) (v := ?v19_20) ?h19_20 (by kernel_rfl) (by kernel_rfl) (by kernel_rfl) ?q19_20 (Or.inl ⟨?z19_20, ?y19_20⟩) (by assumption) ?r19_20
    case h19_20 =>
      simp only [List.getElem?_toArray, List.getElem?_cons_succ, List.getElem?_cons_zero]
      rfl
    case q19_20 => exact fun _ _ _ h => h
    case z19_20 => rfl
    case y19_20 =>
      intro w hSw
      try dsimp only at hSw
      go_simp
      try with_reducible rfl
    try simp only [Act.put, List.setIfInBounds_toArray, List.set_cons_zero, List.set_cons_succ]
    refine wpAnyH_take (i := 20) (oi := ?o20_21) (v := ?v20_21) ?h20_21 (by kernel_rfl) (by kernel_rfl) (by kernel_rfl) ?q20_21 (Or.inl ⟨?z20_21, ?y20_21⟩) (by assumption) ?r20_21
    case h20_21 =>
      simp only [List.getElem?_toArray, List.getElem?_cons_succ, List.getElem?_cons_zero]
      rfl
    case q20_21 => exact fun _ _ _ h => h
    case z20_21 => rfl
    case y20_21 =>
      intro w hSw
      try dsimp only at hSw
      go_simp
      try with_reducible rfl
    try simp only [Act.put, List.setIfInBounds_toArray, List.set_cons_zero, List.set_cons_succ]
    refine wpAnyH_take (i := 22) (oi := ?o22_22) (v := ?v22_22) ?h22_22 (by kernel_rfl) (by kernel_rfl) (by kernel_rfl) ?q22_22 (Or.inl ⟨?z22_22, ?y22_22⟩) (by assumption) ?r22_22
    case h22_22 =>
      simp only [List.getElem?_toArray, List.getElem?_cons_succ, List.getElem?_cons_zero]
      rfl
    case q22_22 => exact fun _ _ _ h => h
    case z22_22 => rfl
    case y22_22 =>
      intro w hSw
      try dsimp only at hSw
      go_simp
      try with_reducible rfl
    try simp only [Act.put, List.setIfInBounds_toArray, List.set_cons_zero, List.set_cons_succ]
    refine wpAnyH_take (i := 24) (oi := ?o24_23) (v := ?v24_23) ?h24_23 (by kernel_rfl) (by kernel_rfl) (by kernel_rfl) ?q24_23 (Or.inl ⟨?z24_23, ?y24_23⟩) (by assumption) ?r24_23
    case h24_23 =>
      simp only [List.getElem?_toArray, List.getElem?_cons_succ, List.getElem?_cons_zero]
      rfl
    case q24_23 => exact fun _ _ _ h => h
    case z24_23 => rfl
    case y24_23 =>
      intro w hSw
      try dsimp only at hSw
      go_simp
      try with_reducible rfl
    try simp only [Act.put, List.setIfInBounds_toArray, List.set_cons_zero, List.set_cons_succ]
    refine wpAnyH_ready (rs := [21]) (by kernel_rfl) (by simp) ?_
    refine AllReadyH.cons (o := ?o21_24) ?h21_24 (fun K hK => ?k21_24) AllReadyH.nil
    case h21_24 =>
      simp only [List.getElem?_toArray, List.getElem?_cons_succ, List.getElem?_cons_zero]
      rfl
    go_simp
    go_at_call 20
    refine (HFX.out _ HB_wa.out).mono ?_
    rintro e wb ⟨rfl, bwb⟩
    have HB_wb : Hid (Below w7.heap.size w7 wb) := HB_wa.out.trans (bwb.mono HB_wa.out.size)
    clear bwb
    try go_wp2_with fail
    refine hK.out _ _ (by first | exact ⟨(HX5.out.step HB_wb.out).cell 0, (HX5.out.step HB_wb.out).cell 1, (HX8.out.step HB_wb.out).cell 0, (HX8.out.step HB_wb.out).cell 1, (HX1.out.step HB_wb.out).cell 0, (HX1.out.step HB_wb.out).cell 1⟩ | go_keep) (fun hHeld24 => ?_)
    clear hK K
    try simp only [Act.put, List.setIfInBounds_toArray, List.set_cons_zero, List.set_cons_succ]
    refine wpAnyH_ready (rs := [23]) (by kernel_rfl) (by simp) ?_
    refine AllReadyH.cons (o := ?o23_25) ?h23_25 (fun K hK => ?k23_25) AllReadyH.nil
    case h23_25 =>
      simp only [List.getElem?_toArray, List.getElem?_cons_succ, List.getElem?_cons_zero]
      rfl
    go_simp
    go_at_call 20
    refine (HFM.out _ HB_wb.out).mono ?_
    rintro e wc ⟨rfl, bwc⟩
    have HB_wc : Hid (Below w7.heap.size w7 wc) := HB_wb.out.trans (bwc.mono HB_wb.out.size)
    clear bwc
    try go_wp2_with fail
    refine hK.out _ _ (by first | exact ⟨(HX5.out.step HB_wc.out).cell 0, (HX5.out.step HB_wc.out).cell 1, (HX8.out.step HB_wc.out).cell 0, (HX8.out.step HB_wc.out).cell 1, (HX1.out.step HB_wc.out).cell 0, (HX1.out.step HB_wc.out).cell 1⟩ | go_keep) (fun hHeld25 => ?_)
    clear hK K
    try simp only [Act.put, List.setIfInBounds_toArray, List.set_cons_zero, List.set_cons_succ]
    refine wpAnyH_take (i := 25) (oi := ?o25_26) (v := ?v25_26) ?h25_26 (by kernel_rfl) (by kernel_rfl) (by kernel_rfl) ?q25_26 (Or.inl ⟨?z25_26, ?y25_26⟩) (by assumption) ?r25_26
    case h25_26 =>
      simp only [List.getElem?_toArray, List.getElem?_cons_succ, List.getElem?_cons_zero]
      rfl
    case q25_26 => exact fun _ _ _ h => h
    case z25_26 => rfl
    case y25_26 =>
      intro w hSw
      try dsimp only at hSw
      go_simp
      try with_reducible rfl
    try simp only [Act.put, List.setIfInBounds_toArray, List.set_cons_zero, List.set_cons_succ]
    refine wpAnyH_take (i := 26) (oi := ?o26_27) (v := ?v26_27) ?h26_27 (by kernel_rfl) (by kernel_rfl) (by kernel_rfl) ?q26_27 (Or.inl ⟨?z26_27, ?y26_27⟩) (by assumption) ?r26_27
    case h26_27 =>
      simp only [List.getElem?_toArray, List.getElem?_cons_succ, List.getElem?_cons_zero]
      rfl
    case q26_27 => exact fun _ _ _ h => h
    case z26_27 => rfl
    case y26_27 =>
      intro w hSw
      try dsimp only at hSw
      go_simp
      try with_reducible rfl
    try simp only [Act.put, List.setIfInBounds_toArray, List.set_cons_zero, List.set_cons_succ]
    refine wpAnyH_take (i := 27) (oi := ?o27_28) (v := ?v27_28) ?h27_28 (by kernel_rfl) (by kernel_rfl) (by kernel_rfl) ?q27_28 (Or.inl ⟨?z27_28, ?y27_28⟩) (by assumption) ?r27_28
    case h27_28 =>
      simp only [List.getElem?_toArray, List.getElem?_cons_succ, List.getElem?_cons_zero]
      rfl
    case q27_28 => exact fun _ _ _ h => h
    case z27_28 => rfl
    case y27_28 =>
      intro w hSw
      try dsimp only at hSw
      go_simp
      try with_reducible rfl
    try simp only [Act.put, List.setIfInBounds_toArray, List.set_cons_zero, List.set_cons_succ]
    refine wpAnyH_take (i := 28) (oi := ?o28_29) (v := ?v28_29) ?h28_29 (by kernel_rfl) (by kernel_rfl) (by kernel_rfl) ?q28_29 (Or.inl ⟨?z28_29, ?y28_29⟩) (by assumption) ?r28_29
    case h28_29 =>
      simp only [List.getElem?_toArray, List.getElem?_cons_succ, List.getElem?_cons_zero]
      rfl
    case q28_29 => exact fun _ _ _ h => h
    case z28_29 => rfl
    case y28_29 =>
      intro w hSw
      try dsimp only at hSw
      go_simp
      try with_reducible rfl
    try simp only [Act.put, List.setIfInBounds_toArray, List.set_cons_zero, List.set_cons_succ]
    refine wpAnyH_take (i := 29) (oi := ?o29_30) (v := ?v29_30) ?h29_30 (by kernel_rfl) (by kernel_rfl) (by kernel_rfl) ?q29_30 (Or.inl ⟨?z29_30, ?y29_30⟩) (by assumption) ?r29_30
    case h29_30 =>
      simp only [List.getElem?_toArray, List.getElem?_cons_succ, List.getElem?_cons_zero]
      rfl
    case q29_30 => exact fun _ _ _ h => h
    case z29_30 => rfl
    case y29_30 =>
      intro w hSw
      try dsimp only at hSw
      go_simp
      try with_reducible rfl
    try simp only [Act.put, List.setIfInBounds_toArray, List.set_cons_zero, List.set_cons_succ]
    refine wpAnyH_take (i := 30) (oi := ?o30_31) (v := ?v30_31) ?h30_31 (by kernel_rfl) (by kernel_rfl) (by kernel_rfl) ?q30_31 (Or.inl ⟨?z30_31, ?y30_31⟩) (by assumption) ?r30_31
    case h30_31 =>
      simp only [List.getElem?_toArray, List.getElem?_cons_succ, List.getElem?_cons_zero]
      rfl
    case q30_31 => exact fun _ _ _ h => h
    case z30_31 => rfl
    case y30_31 =>
      intro w hSw
      try dsimp only at hSw
      go_simp
      try with_reducible rfl
    try simp only [Act.put, List.setIfInBounds_toArray, List.set_cons_zero, List.set_cons_succ]
    refine wpAnyH_take (i := 31) (oi := ?o31_32) (v := ?v31_32) ?h31_32 (by kernel_rfl) (by kernel_rfl) (by kernel_rfl) ?q31_32 (Or.inl ⟨?z31_32, ?y31_32⟩) (by assumption) ?r31_32
    case h31_32 =>
      simp only [List.getElem?_toArray, List.getElem?_cons_succ, List.getElem?_cons_zero]
      rfl
    case q31_32 => exact fun _ _ _ h => h
    case z31_32 => rfl
    case y31_32 =>
      intro w hSw
      try dsimp only at hSw
      go_simp
      try with_reducible rfl
    try simp only [Act.put, List.setIfInBounds_toArray, List.set_cons_zero, List.set_cons_succ]
    refine wpAnyH_take (i := 32) (oi := ?o32_33) (v := ?v32_33) ?h32_33 (by kernel_rfl) (by kernel_rfl) (by kernel_rfl) ?q32_33 (Or.inl ⟨?z32_33, ?y32_33⟩) (by assumption) ?r32_33
    case h32_33 =>
      simp only [List.getElem?_toArray, List.getElem?_cons_succ, List.getElem?_cons_zero]
      rfl
    case q32_33 => exact fun _ _ _ h => h
    case z32_33 => rfl
    case y32_33 =>
      intro w hSw
      try dsimp only at hSw
      go_simp
      try with_reducible rfl
    try simp only [Act.put, List.setIfInBounds_toArray, List.set_cons_zero, List.set_cons_succ]
    refine wpAnyH_take (i := 33) (oi := ?o33_34) (v := ?v33_34) ?h33_34 (by kernel_rfl) (by kernel_rfl) (by kernel_rfl) ?q33_34 (Or.inl ⟨?z33_34, ?y33_34⟩) (by assumption) ?r33_34
    case h33_34 =>
      simp only [List.getElem?_toArray, List.getElem?_cons_succ, List.getElem?_cons_zero]
      rfl
    case q33_34 => exact fun _ _ _ h => h
    case z33_34 => rfl
    case y33_34 =>
      intro w hSw
      try dsimp only at hSw
      go_simp
      try with_reducible rfl
    try simp only [Act.put, List.setIfInBounds_toArray, List.set_cons_zero, List.set_cons_succ]
    refine wpAnyH_take (i := 34) (oi := ?o34_35) (v := ?v34_35) ?h34_35 (by kernel_rfl) (by kernel_rfl) (by kernel_rfl) ?q34_35 (Or.inl ⟨?z34_35, ?y34_35⟩) (by assumption) ?r34_35
    case h34_35 =>
      simp only [List.getElem?_toArray, List.getElem?_cons_succ, List.getElem?_cons_zero]
      rfl
    case q34_35 => exact fun _ _ _ h => h
    case z34_35 => rfl
    case y34_35 =>
      intro w hSw
      try dsimp only at hSw
      go_simp
      try with_reducible rfl
    try simp only [Act.put, List.setIfInBounds_toArray, List.set_cons_zero, List.set_cons_succ]
    refine wpAnyH_ready (rs := [35]) (by kernel_rfl) (by simp) ?_
    refine AllReadyH.cons (o := ?o35_36) ?h35_36 (fun K hK => ?k35_36) AllReadyH.nil
    case h35_36 =>
      simp only [List.getElem?_toArray, List.getElem?_cons_succ, List.getElem?_cons_zero]
      rfl
    go_simp
    go_at_call 13
    refine (HSM.out _ HB_wc.out).mono ?_
    rintro e wd ⟨rfl, bwd⟩
    have HB_wd : Hid (Below w7.heap.size w7 wd) := HB_wc.out.trans (bwd.mono HB_wc.out.size)
    clear bwd
    try go_wp2_with fail
    refine hK.out _ _ (by first | exact ⟨(HX5.out.step HB_wd.out).cell 0, (HX5.out.step HB_wd.out).cell 1, (HX8.out.step HB_wd.out).cell 0, (HX8.out.step HB_wd.out).cell 1, (HX1.out.step HB_wd.out).cell 0, (HX1.out.step HB_wd.out).cell 1⟩ | go_keep) (fun hHeld36 => ?_)
    clear hK K
    try simp only [Act.put, List.setIfInBounds_toArray, List.set_cons_zero, List.set_cons_succ]
    refine wpAnyH_take (i := 36) (oi := ?o36_37) (v := ?v36_37) ?h36_37 (by kernel_rfl) (by kernel_rfl) (by kernel_rfl) ?q36_37 (Or.inl ⟨?z36_37, ?y36_37⟩) (by assumption) ?r36_37
    case h36_37 =>
      simp only [List.getElem?_toArray, List.getElem?_cons_succ, List.getElem?_cons_zero]
      rfl
    case q36_37 => exact fun _ _ _ h => h
    case z36_37 => rfl
    case y36_37 =>
      intro w hSw
      try dsimp only at hSw
      go_simp
      try with_reducible rfl
    try simp only [Act.put, List.setIfInBounds_toArray, List.set_cons_zero, List.set_cons_succ]
    refine wpAnyH_take (i := 37) (oi := ?o37_38) (v := ?v37_38) ?h37_38 (by kernel_rfl) (by kernel_rfl) (by kernel_rfl) ?q37_38 (Or.inl ⟨?z37_38, ?y37_38⟩) (by assumption) ?r37_38
    case h37_38 =>
      simp only [List.getElem?_toArray, List.getElem?_cons_succ, List.getElem?_cons_zero]
      rfl
    case q37_38 => exact fun _ _ _ h => h
    case z37_38 => rfl
    case y37_38 =>
      intro w hSw
      try dsimp only at hSw
      go_simp
      try with_reducible rfl
    try simp only [Act.put, List.setIfInBounds_toArray, List.set_cons_zero, List.set_cons_succ]
    refine wpAnyH_take (i := 38) (oi := ?o38_39) (v := ?v38_39) ?h38_39 (by kernel_rfl) (by kernel_rfl) (by kernel_rfl) ?q38_39 (Or.inl ⟨?z38_39, ?y38_39⟩) (by assumption) ?r38_39
    case h38_39 =>
      simp only [List.getElem?_toArray, List.getElem?_cons_succ, List.getElem?_cons_zero]
      rfl
    case q38_39 => exact fun _ _ _ h => h
    case z38_39 => rfl
    case y38_39 =>
      intro w hSw
      try dsimp only at hSw
      go_simp
      try with_reducible rfl
    try simp only [Act.put, List.setIfInBounds_toArray, List.set_cons_zero, List.set_cons_succ]
    refine wpAnyH_take (i := 39) (oi := ?o39_40) (v := ?v39_40) ?h39_40 (by kernel_rfl) (by kernel_rfl) (by kernel_rfl) ?q39_40 (Or.inl ⟨?z39_40, ?y39_40⟩) (by assumption) ?r39_40
    case h39_40 =>
      simp only [List.getElem?_toArray, List.getElem?_cons_succ, List.getElem?_cons_zero]
      rfl
    case q39_40 => exact fun _ _ _ h => h
    case z39_40 => rfl
    case y39_40 =>
      intro w hSw
      try dsimp only at hSw
      go_simp
      try with_reducible rfl
    try simp only [Act.put, List.setIfInBounds_toArray, List.set_cons_zero, List.set_cons_succ]
    refine wpAnyH_take (i := 40) (oi := ?o40_41) (v := ?v40_41) ?h40_41 (by kernel_rfl) (by kernel_rfl) (by kernel_rfl) ?q40_41 (Or.inl ⟨?z40_41, ?y40_41⟩) (by assumption) ?r40_41
    case h40_41 =>
      simp only [List.getElem?_toArray, List.getElem?_cons_succ, List.getElem?_cons_zero]
      rfl
    case q40_41 => exact fun _ _ _ h => h
    case z40_41 => rfl
    case y40_41 =>
      intro w hSw
      try dsimp only at hSw
      go_simp
      try with_reducible rfl
    try simp only [Act.put, List.setIfInBounds_toArray, List.set_cons_zero, List.set_cons_succ]
    refine wpAnyH_take (i := 41) (oi := ?o41_42) (v := ?v41_42) ?h41_42 (by kernel_rfl) (by kernel_rfl) (by kernel_rfl) ?q41_42 (Or.inl ⟨?z41_42, ?y41_42⟩) (by assumption) ?r41_42
    case h41_42 =>
      simp only [List.getElem?_toArray, List.getElem?_cons_succ, List.getElem?_cons_zero]
      rfl
    case q41_42 => exact fun _ _ _ h => h
    case z41_42 => rfl
    case y41_42 =>
      intro w hSw
      try dsimp only at hSw
      go_simp
      try with_reducible rfl
    try simp only [Act.put, List.setIfInBounds_toArray, List.set_cons_zero, List.set_cons_succ]
    refine wpAnyH_done (by kernel_rfl) ?_ _
    go_wp2_with fail
    go_ret
    exact ⟨rfl, HB7.out.trans (HB_wd.out.mono HB7.out.size)⟩
end Go.Proofs.Ytlppngpafjfjeaa

