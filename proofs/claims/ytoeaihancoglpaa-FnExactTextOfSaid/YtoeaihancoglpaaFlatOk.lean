/-
  spec.FlatOk and impl.FlatOk return the same bool.
-/
import Derived.Test.YtoeaihancoglpaaKinds
namespace Go.Proofs.Ytoeaihancoglpaa
open Go.RowKit
set_option linter.unusedVariables false

def pairOk (p : Int × Int) : Bool := !(p.1 == 1) || inB p.2 0 4294967295
def flatOk (xs ys : List Int) : Bool := kindsOk xs && decide (xs.length = ys.length) && (xs.zip ys).all pairOk

theorem zip_get {xs ys : List Int} {k : Nat} {x y : Int} (hx : xs[k]? = some x) (hy : ys[k]? = some y) : (xs.zip ys)[k]? = some (x, y) :=
  List.getElem?_zip_eq_some.2 ⟨hx, hy⟩

theorem flat_yes {xs ys : List Int} (hk : kindsOk xs = true) (hl : xs.length = ys.length) (h : ∀ (j : Nat) (p : Int × Int), (xs.zip ys)[j]? = some p → pairOk p = true) : flatOk xs ys = true := by
  simp only [flatOk, hk, hl, decide_true, Bool.true_and]
  exact all_true h
theorem flat_no {xs ys : List Int} {k : Nat} {p : Int × Int} (hp : (xs.zip ys)[k]? = some p) (h : pairOk p = false) : flatOk xs ys = false := by
  simp only [flatOk, all_false hp h, Bool.and_false]

theorem small_any (n : Int) (w : World) : Calls Try.prog 58 #[.int .i64 n] w fun e w' => e = .returned (.bool (inB n 0 4294967295)) ∧ w = w' := by
  go_enter Try.func58, Try.ntmps58
  go_wp2_with (first | (go_at_call 48; refine (within_any _ _ _ _).mono ?_; rintro e w' ⟨rfl, rfl⟩))
  go_ret
  exact ⟨rfl, rfl⟩

theorem specFlatOk_any (A B : Option Addr) (n m c d L : Nat) (xs ys : List Int) (w : World) (hn : n ≤ maxLen) (hm : m ≤ maxLen) (h : RdI w L A n xs) (k : RdI w L B m ys) :
    Calls Try.prog 29 #[.slice A n c, .slice B m d] w fun e w' => e = .returned (.bool (flatOk xs ys)) ∧ w = w' := by
  have HK := Lib.hid (fun W (hW : W = w) => specKindsOk_any A n c L xs W hn (by rw [hW]; exact h))
  unfold maxLen at hn hm
  have hat := fun (h0 : 0 < n) => h.at_ h0
  have kat := fun (h0 : 0 < m) => k.at_ h0
  have HN := Lib.hid h.1
  have HM := Lib.hid k.1
  clear h k
  cases hko : kindsOk xs
  · have hfin : flatOk xs ys = false := by simp [flatOk, hko]
    have HF := Lib.hid hfin
    clear hfin
    go_enter Try.func29, Try.ntmps29
    go_wp2_with fail
    refine (HK.out _ rfl).mono ?_
    rintro e w' ⟨rfl, rfl⟩
    rw [hko]
    go_wp2_with fail
    go_ret
    exact ⟨ret_bool HF.out.symm, rfl⟩
  · by_cases hnm : n = m
    · subst hnm
      have hb : ((n : Int) != (n : Int)) = false := by simp
      have HKO := Lib.hid hko
      clear hko
      go_enter Try.func29, Try.ntmps29
      go_wp2_with fail
      refine (HK.out _ rfl).mono ?_
      rintro e w' ⟨rfl, rfl⟩
      rw [HKO.out]
      go_wp2_with fail
      go_loop [5] (fun i => ∃ k : Nat, k ≤ n ∧ i = .int .i64 k ∧ ∀ (j : Nat) (p : Int × Int), j < k → (xs.zip ys)[j]? = some p → pairOk p = true) (fun i => n - (intOf i).toNat)
      case atStart => exact ⟨0, Nat.zero_le _, rfl, fun j x h => absurd h (by omega)⟩
      case round =>
        obtain ⟨k, hk, rfl, hpre⟩ := hrel
        have HP := Lib.hid hpre
        clear hpre
        by_cases hlt : k < n
        · obtain ⟨g, off, rfl, hg, hc1⟩ := hat (by omega)
          obtain ⟨g', off', rfl, hg', hc2⟩ := kat (by omega)
          obtain ⟨x, hx, _⟩ := at_lt HN.out hlt
          obtain ⟨y, hy, _⟩ := at_lt HM.out hlt
          have hcx := hc1 k x hx
          have hcy := hc2 k y hy
          have HZ := Lib.hid (zip_get hx hy)
          have next : pairOk (x, y) = true → ∀ (j : Nat) (p : Int × Int), j < k + 1 → (xs.zip ys)[j]? = some p → pairOk p = true := by
            intro ho j p hj hp
            by_cases e : j = k
            · subst e
              have := HZ.out
              rw [hp] at this
              injection this with this
              rw [this]; exact ho
            · exact HP.out j p (by omega) hp
          have HX := Lib.hid next
          clear hx hy hc1 hc2 next
          by_cases h1 : x = 1
          · have hb1 : (x == 1) = true := by simp [h1]
            have H1 := Lib.hid h1
            clear h1
            cases hb2 : inB y 0 4294967295
            · go_wp2_with (first | (go_at_call 47; refine (l00In_any _ _ _ _).mono ?_; rintro e w' ⟨rfl, rfl⟩))
              go_ret
              exact ⟨ret_bool (flat_no HZ.out (by simp [pairOk, H1.out, hb2])).symm, rfl⟩
            · go_wp2_with (first | (go_at_call 47; refine (l00In_any _ _ _ _).mono ?_; rintro e w' ⟨rfl, rfl⟩))
              go_round
              case rel => exact ⟨k + 1, by omega, by go_num, HX.out (by simp [pairOk, hb2])⟩
              case measure => simp [intOf]; omega
          · have hb1 : (x == 1) = false := by simpa using h1
            have H1 := Lib.hid h1
            clear h1
            go_wp2_with fail
            go_round
            case rel => exact ⟨k + 1, by omega, by go_num, HX.out (by simp [pairOk, H1.out])⟩
            case measure => simp [intOf]; omega
        · have hkn : k = n := by omega
          subst hkn
          go_wp2_with fail
          go_ret
          refine ⟨ret_bool (flat_yes HKO.out (by have := HN.out; have := HM.out; omega) fun j p hp => HP.out j p ?_ hp).symm, rfl⟩
          have := (List.getElem?_eq_some_iff.1 hp).1
          have := HN.out
          simp at *
          omega
    · have hb : ((m : Int) != (n : Int)) = true := by simp; omega
      have hb' : ((n : Int) != (m : Int)) = true := by simp; omega
      have hfin : flatOk xs ys = false := by
        have : xs.length ≠ ys.length := by have := HN.out; have := HM.out; omega
        simp [flatOk, this]
      have HF := Lib.hid hfin
      have HKO := Lib.hid hko
      clear hko hfin
      go_enter Try.func29, Try.ntmps29
      go_wp2_with fail
      refine (HK.out _ rfl).mono ?_
      rintro e w' ⟨rfl, rfl⟩
      rw [HKO.out]
      go_wp2_with fail
      go_ret
      exact ⟨ret_bool HF.out.symm, rfl⟩

theorem implFlatOk_any (A B : Option Addr) (n m c d L : Nat) (xs ys : List Int) (w : World) (hn : n ≤ maxLen) (hm : m ≤ maxLen) (h : RdI w L A n xs) (k : RdI w L B m ys) :
    Calls Try.prog 30 #[.slice A n c, .slice B m d] w fun e w' => e = .returned (.bool (flatOk xs ys)) ∧ w = w' := by
  have HK := Lib.hid (fun W (hW : W = w) => implKindsOk_any A n c L xs W hn (by rw [hW]; exact h))
  unfold maxLen at hn hm
  have hat := fun (h0 : 0 < n) => h.at_ h0
  have kat := fun (h0 : 0 < m) => k.at_ h0
  have HN := Lib.hid h.1
  have HM := Lib.hid k.1
  clear h k
  cases hko : kindsOk xs
  · have hfin : flatOk xs ys = false := by simp [flatOk, hko]
    have HF := Lib.hid hfin
    clear hfin
    go_enter Try.func30, Try.ntmps30
    go_wp2_with fail
    refine (HK.out _ rfl).mono ?_
    rintro e w' ⟨rfl, rfl⟩
    rw [hko]
    go_wp2_with fail
    go_ret
    exact ⟨ret_bool HF.out.symm, rfl⟩
  · by_cases hnm : n = m
    · subst hnm
      have hb : ((n : Int) != (n : Int)) = false := by simp
      have HKO := Lib.hid hko
      clear hko
      go_enter Try.func30, Try.ntmps30
      go_wp2_with fail
      refine (HK.out _ rfl).mono ?_
      rintro e w' ⟨rfl, rfl⟩
      rw [HKO.out]
      go_wp2_with fail
      go_loop [19] (fun i => ∃ k : Nat, k ≤ n ∧ i = .int .i64 k ∧ ∀ (j : Nat) (p : Int × Int), j < k → (xs.zip ys)[j]? = some p → pairOk p = true) (fun i => n - (intOf i).toNat)
      case atStart => exact ⟨0, Nat.zero_le _, rfl, fun j x h => absurd h (by omega)⟩
      case round =>
        obtain ⟨k, hk, rfl, hpre⟩ := hrel
        have HP := Lib.hid hpre
        clear hpre
        by_cases hlt : k < n
        · obtain ⟨g, off, rfl, hg, hc1⟩ := hat (by omega)
          obtain ⟨g', off', rfl, hg', hc2⟩ := kat (by omega)
          obtain ⟨x, hx, _⟩ := at_lt HN.out hlt
          obtain ⟨y, hy, _⟩ := at_lt HM.out hlt
          have hcx := hc1 k x hx
          have hcy := hc2 k y hy
          have HZ := Lib.hid (zip_get hx hy)
          have next : pairOk (x, y) = true → ∀ (j : Nat) (p : Int × Int), j < k + 1 → (xs.zip ys)[j]? = some p → pairOk p = true := by
            intro ho j p hj hp
            by_cases e : j = k
            · subst e
              have := HZ.out
              rw [hp] at this
              injection this with this
              rw [this]; exact ho
            · exact HP.out j p (by omega) hp
          have HX := Lib.hid next
          clear hx hy hc1 hc2 next
          by_cases h1 : x = 1
          · have hb1 : (x == 1) = true := by simp [h1]
            have H1 := Lib.hid h1
            clear h1
            cases hb2 : inB y 0 4294967295
            · go_wp2_with (first | (go_at_call 58; refine (small_any _ _).mono ?_; rintro e w' ⟨rfl, rfl⟩))
              go_ret
              exact ⟨ret_bool (flat_no HZ.out (by simp [pairOk, H1.out, hb2])).symm, rfl⟩
            · go_wp2_with (first | (go_at_call 58; refine (small_any _ _).mono ?_; rintro e w' ⟨rfl, rfl⟩))
              go_round
              case rel => exact ⟨k + 1, by omega, by go_num, HX.out (by simp [pairOk, hb2])⟩
              case measure => simp [intOf]; omega
          · have hb1 : (x == 1) = false := by simpa using h1
            have H1 := Lib.hid h1
            clear h1
            go_wp2_with fail
            go_round
            case rel => exact ⟨k + 1, by omega, by go_num, HX.out (by simp [pairOk, H1.out])⟩
            case measure => simp [intOf]; omega
        · have hkn : k = n := by omega
          subst hkn
          go_wp2_with fail
          go_ret
          refine ⟨ret_bool (flat_yes HKO.out (by have := HN.out; have := HM.out; omega) fun j p hp => HP.out j p ?_ hp).symm, rfl⟩
          have := (List.getElem?_eq_some_iff.1 hp).1
          have := HN.out
          simp at *
          omega
    · have hb : ((m : Int) != (n : Int)) = true := by simp; omega
      have hb' : ((n : Int) != (m : Int)) = true := by simp; omega
      have hfin : flatOk xs ys = false := by
        have : xs.length ≠ ys.length := by have := HN.out; have := HM.out; omega
        simp [flatOk, this]
      have HF := Lib.hid hfin
      have HKO := Lib.hid hko
      clear hko hfin
      go_enter Try.func30, Try.ntmps30
      go_wp2_with fail
      refine (HK.out _ rfl).mono ?_
      rintro e w' ⟨rfl, rfl⟩
      rw [HKO.out]
      go_wp2_with fail
      go_ret
      exact ⟨ret_bool HF.out.symm, rfl⟩

theorem walk_FnExactFlatOk (w : World) (v0 : Value) (h : ArgI w v0) (v1 : Value) (k : ArgI w v1) :
    Calls Try.prog 9 #[v0, v1] w fun e w' => e = .returned (.bool true) ∧ Below w.heap.size w w' := by
  obtain ⟨A, n, c, xs, rfl, hm, hr⟩ := h
  obtain ⟨A', n', c', ys, rfl, hm', hr'⟩ := k
  have hmm := hm
  have hmm' := hm'
  unfold maxLen at hmm hmm'
  clear hm hm'
  by_cases hn : (1048576 : Int) < n
  · clear hr hr'
    go_enter Try.func9, Try.ntmps9
    go_wp2_with fail
    go_ret
    exact ⟨rfl, Below.refl _ _⟩
  by_cases hn' : (1048576 : Int) < n'
  · clear hr hr'
    go_enter Try.func9, Try.ntmps9
    go_wp2_with fail
    go_ret
    exact ⟨rfl, Below.refl _ _⟩
  go_enter Try.func9, Try.ntmps9
  go_wp2_with fail
  refine (toI_any A n c w.heap.size xs _ (Nat.le_refl _) (by omega) hr).mono ?_
  rintro e w1 ⟨v1, rfl, ho1, hb1⟩
  obtain ⟨A1, n1, c1, rfl, hm1, hr1⟩ := ho1.rd
  go_wp2_with fail
  refine (toI_any A' n' c' w.heap.size ys _ hb1.size (by omega) (hr'.below hb1)).mono ?_
  rintro e w2 ⟨v2, rfl, ho2, hb2⟩
  obtain ⟨A2, n2, c2, rfl, hm2, hr2⟩ := ho2.rd
  have hB2 := hb1.trans (hb2.mono hb1.size)
  go_wp2_with fail
  refine (specFlatOk_any _ _ _ _ _ _ w2.heap.size xs ys _ hm1 hm2 ((hr1.below hb2).more hb2.size) hr2).mono ?_
  rintro e w3 ⟨rfl, rfl⟩
  go_wp2_with fail
  refine (toI_any A n c w.heap.size xs _ hB2.size (by omega) (hr.below hB2)).mono ?_
  rintro e w3 ⟨v3, rfl, ho3, hb3⟩
  obtain ⟨A3, n3, c3, rfl, hm3, hr3⟩ := ho3.rd
  have hB3 := hB2.trans (hb3.mono hB2.size)
  go_wp2_with fail
  refine (toI_any A' n' c' w.heap.size ys _ hB3.size (by omega) (hr'.below hB3)).mono ?_
  rintro e w4 ⟨v4, rfl, ho4, hb4⟩
  obtain ⟨A4, n4, c4, rfl, hm4, hr4⟩ := ho4.rd
  have hB4 := hB3.trans (hb4.mono hB3.size)
  have hr34 := (hr3.below hb4).more hb4.size
  go_wp2_with fail
  refine (implFlatOk_any _ _ _ _ _ _ w4.heap.size xs ys _ hm3 hm4 hr34 hr4).mono ?_
  rintro e w5 ⟨rfl, rfl⟩
  go_wp2_with fail
  refine (toI_any A n c w.heap.size xs _ hB4.size (by omega) (hr.below hB4)).mono ?_
  rintro e w5 ⟨v5, rfl, ho5, hb5⟩
  obtain ⟨A5, n5, c5, rfl, hm5, hr5⟩ := ho5.rd
  have hB5 := hB4.trans (hb5.mono hB4.size)
  go_wp2_with fail
  refine (eqIB_any _ _ _ _ _ _ w5.heap.size xs xs _ hm3 hm5 ((hr34.below hb5).more hb5.size) hr5).mono ?_
  rintro e w6 ⟨rfl, hb6⟩
  have hB6 := hB5.trans (hb6.mono hB5.size)
  rw [decide_eq_true (rfl : xs = xs)]
  go_wp2_with fail
  refine (toI_any A' n' c' w.heap.size ys _ hB6.size (by omega) (hr'.below hB6)).mono ?_
  rintro e w7 ⟨v7, rfl, ho7, hb7⟩
  obtain ⟨A7, n7, c7, rfl, hm7, hr7⟩ := ho7.rd
  have hB7 := hB6.trans (hb7.mono hB6.size)
  have hr4a := (hr4.below hb5).more hb5.size
  have hr4b := (hr4a.below hb6).more hb6.size
  go_wp2_with fail
  refine (eqIB_any _ _ _ _ _ _ w7.heap.size ys ys _ hm4 hm7 ((hr4b.below hb7).more hb7.size) hr7).mono ?_
  rintro e w8 ⟨rfl, hb8⟩
  rw [decide_eq_true (rfl : ys = ys)]
  go_wp2_with fail
  go_ret
  exact ⟨rfl, hB7.trans (hb8.mono hB7.size)⟩
end Go.Proofs.Ytoeaihancoglpaa
