/-
  Flat kinds: spec.KindsOk and impl.KindsOk return the same bool; spec.FlatOk and impl.FlatOk too.
-/
import Derived.Test.YtoeaihancoglpaaInts
import Derived.Test.YtoeaihancoglpaaSmall
namespace Go.Proofs.Ytoeaihancoglpaa
open Go.RowKit
set_option linter.unusedVariables false

def kindsOk (xs : List Int) : Bool := xs.all fun x => inB x 1 2

theorem specKindsOk_any (A : Option Addr) (n c B : Nat) (xs : List Int) (w : World) (hn : n ≤ maxLen) (h : RdI w B A n xs) :
    Calls Try.prog 25 #[.slice A n c] w fun e w' => e = .returned (.bool (kindsOk xs)) ∧ w = w' := by
  unfold maxLen at hn
  have hat := fun (h0 : 0 < n) => h.at_ h0
  have HN := Lib.hid h.1
  clear h
  go_enter Try.func25, Try.ntmps25
  go_wp2_with fail
  go_loop [3] (fun i => ∃ k : Nat, k ≤ n ∧ i = .int .i64 k ∧ ∀ (j : Nat) (x : Int), j < k → xs[j]? = some x → inB x 1 2 = true) (fun i => n - (intOf i).toNat)
  case atStart => exact ⟨0, Nat.zero_le _, rfl, fun j x h => absurd h (by omega)⟩
  case round =>
    obtain ⟨k, hk, rfl, hpre⟩ := hrel
    have HP := Lib.hid hpre
    clear hpre
    by_cases hlt : k < n
    · obtain ⟨g, off, rfl, hg, hc1⟩ := hat (by omega)
      obtain ⟨x, hx, _⟩ := at_lt HN.out hlt
      have hcx := hc1 k x hx
      have HX := Lib.hid hx
      clear hx hc1
      cases hb : inB x 1 2
      · go_wp2_with (first | (go_at_call 47; refine (l00In_any _ _ _ _).mono ?_; rintro e w' ⟨rfl, rfl⟩))
        go_ret
        exact ⟨ret_bool (all_false HX.out hb).symm, rfl⟩
      · go_wp2_with (first | (go_at_call 47; refine (l00In_any _ _ _ _).mono ?_; rintro e w' ⟨rfl, rfl⟩))
        go_round
        case rel =>
          refine ⟨k + 1, by omega, by go_num, fun j y hj hy => ?_⟩
          by_cases e : j = k
          · subst e
            have := HX.out
            rw [hy] at this
            injection this with this
            rw [this]; exact hb
          · exact HP.out j y (by omega) hy
        case measure => simp [intOf]; omega
    · have hkn : k = n := by omega
      subst hkn
      go_wp2
      go_ret
      refine ⟨ret_bool (all_true fun j x hx => HP.out j x ?_ hx).symm, rfl⟩
      have := (List.getElem?_eq_some_iff.1 hx).1
      have := HN.out
      omega

theorem kindsLit_any (x : Int) (w : World) : Calls Try.prog 57 #[.int .i64 x] w fun e w' => e = .returned (.bool (!inB x 1 2)) ∧ w = w' := by
  rcases (show x = 1 ∨ x = 2 ∨ (x ≠ 1 ∧ x ≠ 2) by omega) with rfl | rfl | ⟨h1, h2⟩
  · go_enter Try.func57, Try.ntmps57
    go_wp2
    go_ret
    exact ⟨rfl, rfl⟩
  · go_enter Try.func57, Try.ntmps57
    go_wp2
    go_ret
    exact ⟨rfl, rfl⟩
  · have hb1 : (x != 1) = true := by simpa using h1
    have hb2 : (x != 2) = true := by simpa using h2
    go_enter Try.func57, Try.ntmps57
    go_wp2
    go_ret
    exact ⟨ret_bool (by rw [inB_no.2 (by omega)]; rfl), rfl⟩

/-- slices.IndexFunc over []int64, at whatever function value -/
theorem idx64_any (fid : Nat) (caps : Array Value) (p : Int → Bool) (A : Option Addr) (n c B : Nat) (xs : List Int) (w : World) (hn : n ≤ maxLen) (h : RdI w B A n xs)
    (hcf : ∀ a W, Sem.run Try.prog (callFunc fid a) W = .ok (.enter fid a) W)
    (hp : ∀ x, Calls Try.prog fid (#[.int .i64 x] ++ caps) w fun e w' => e = .returned (.bool (p x)) ∧ w = w') :
    Calls Try.prog 73 #[.slice A n c, .func (.func fid) #[] caps] w fun e w' => (∃ k : Int, e = .returned (.int .i64 k) ∧ decide (0 ≤ k) = xs.any p) ∧ w = w' := by
  unfold maxLen at hn
  have hat := fun (h0 : 0 < n) => h.at_ h0
  have HN := Lib.hid h.1
  clear h
  have HQ := Lib.hid hp
  clear hp
  go_enter Try.func73, Try.ntmps73
  go_wp2_with fail
  go_loop [8] (fun i => ∃ k : Nat, k ≤ n ∧ i = .int .i64 k ∧ ∀ (j : Nat) (x : Int), j < k → xs[j]? = some x → p x = false) (fun i => n - (intOf i).toNat)
  case atStart => exact ⟨0, Nat.zero_le _, rfl, fun j x h => absurd h (by omega)⟩
  case round =>
    obtain ⟨k, hk, rfl, hpre⟩ := hrel
    have HP := Lib.hid hpre
    clear hpre
    by_cases hlt : k < n
    · obtain ⟨g, off, rfl, hg, hc1⟩ := hat (by omega)
      obtain ⟨x, hx, _⟩ := at_lt HN.out hlt
      have hcx := hc1 k x hx
      have HX := Lib.hid hx
      clear hx hc1
      go_wp2_with fail
      refine (HQ.out x).mono ?_
      rintro e w' ⟨rfl, rfl⟩
      cases hb : p x
      · go_wp2_with fail
        go_round
        case rel =>
          refine ⟨k + 1, by omega, by go_num, fun j y hj hy => ?_⟩
          by_cases e : j = k
          · subst e
            have := HX.out
            rw [hy] at this
            injection this with this
            rw [this]; exact hb
          · exact HP.out j y (by omega) hy
        case measure => simp [intOf]; omega
      · go_wp2_with fail
        go_ret
        refine ⟨⟨_, rfl, ?_⟩, rfl⟩
        rw [show xs.any p = true from List.any_eq_true.2 ⟨x, List.mem_of_getElem? HX.out, hb⟩]
        simp
    · have hkn : k = n := by omega
      subst hkn
      go_wp2_with fail
      go_ret
      refine ⟨⟨_, rfl, ?_⟩, rfl⟩
      rw [show xs.any p = false from List.any_eq_false.2 fun x hx => by
        obtain ⟨j, hj, rfl⟩ := List.getElem_of_mem hx
        have := HN.out
        simp [HP.out j _ (by omega) (List.getElem?_eq_getElem hj)]]
      rfl

/-- slices.ContainsFunc over []int64 -/
theorem has64_any (fid : Nat) (caps : Array Value) (p : Int → Bool) (A : Option Addr) (n c B : Nat) (xs : List Int) (w : World) (hn : n ≤ maxLen) (h : RdI w B A n xs)
    (hcf : ∀ a W, Sem.run Try.prog (callFunc fid a) W = .ok (.enter fid a) W)
    (hp : ∀ x, Calls Try.prog fid (#[.int .i64 x] ++ caps) w fun e w' => e = .returned (.bool (p x)) ∧ w = w') :
    Calls Try.prog 56 #[.slice A n c, .func (.func fid) #[] caps] w fun e w' => e = .returned (.bool (xs.any p)) ∧ w = w' := by
  have H := fun W (hW : W = w) => idx64_any fid caps p A n c B xs W hn (by rw [hW]; exact h) hcf (by rw [hW]; exact hp)
  have HI := Lib.hid H
  clear H h hcf hp hn
  go_enter Try.func56, Try.ntmps56
  go_wp2_with fail
  refine (HI.out _ rfl).mono ?_
  rintro e w' ⟨⟨k, rfl, hk⟩, rfl⟩
  have HK := Lib.hid hk
  clear hk
  go_wp2_with fail
  go_ret
  exact ⟨ret_bool HK.out, rfl⟩

theorem kindsLit_enter (a : Array Value) (W : World) : Sem.run Try.prog (callFunc 57 a) W = .ok (.enter 57 a) W := by kernel_rfl

theorem implKindsOk_any (A : Option Addr) (n c B : Nat) (xs : List Int) (w : World) (hn : n ≤ maxLen) (h : RdI w B A n xs) :
    Calls Try.prog 27 #[.slice A n c] w fun e w' => e = .returned (.bool (kindsOk xs)) ∧ w = w' := by
  have HI := Lib.hid (has64_any 57 #[] (fun x => !inB x 1 2) A n c B xs w hn h kindsLit_enter (fun x => kindsLit_any x w))
  clear h hn
  go_enter Try.func27, Try.ntmps27
  go_wp2_with fail
  refine HI.out.mono ?_
  rintro e w' ⟨rfl, rfl⟩
  go_wp2_with fail
  go_ret
  refine ⟨ret_bool ?_, rfl⟩
  unfold kindsOk
  rw [List.not_any_eq_all_not]
  simp

theorem walk_FnExactKindsOk (w : World) (v0 : Value) (h : ArgI w v0) :
    Calls Try.prog 8 #[v0] w fun e w' => e = .returned (.bool true) ∧ Below w.heap.size w w' := by
  obtain ⟨A, n, c, xs, rfl, hm, hr⟩ := h
  have hm' := hm
  unfold maxLen at hm'
  have HM := Lib.hid hm
  clear hm
  by_cases hn : (1048576 : Int) < n
  · clear hr HM
    go_enter Try.func8, Try.ntmps8
    go_wp2_with fail
    go_ret
    exact ⟨rfl, Below.refl _ _⟩
  · go_enter Try.func8, Try.ntmps8
    go_wp2_with fail
    refine (toI_any A n c w.heap.size xs _ (Nat.le_refl _) (by omega) hr).mono ?_
    rintro e w1 ⟨v1, rfl, ho1, hb1⟩
    obtain ⟨A1, n1, c1, rfl, hm1, hr1⟩ := ho1.rd
    go_wp2_with fail
    refine (specKindsOk_any _ _ _ _ xs _ hm1 hr1).mono ?_
    rintro e w2 ⟨rfl, rfl⟩
    go_wp2_with fail
    refine (toI_any A n c w.heap.size xs _ hb1.size (by omega) (hr.below hb1)).mono ?_
    rintro e w3 ⟨v3, rfl, ho3, hb3⟩
    obtain ⟨A3, n3, c3, rfl, hm3, hr3⟩ := ho3.rd
    go_wp2_with fail
    refine (implKindsOk_any _ _ _ _ xs _ hm3 hr3).mono ?_
    rintro e w4 ⟨rfl, rfl⟩
    go_wp2_with fail
    have hb13 := hb1.trans (hb3.mono hb1.size)
    refine (toI_any A n c w.heap.size xs _ hb13.size (by omega) (hr.below hb13)).mono ?_
    rintro e w5 ⟨v5, rfl, ho5, hb5⟩
    obtain ⟨A5, n5, c5, rfl, hm5, hr5⟩ := ho5.rd
    go_wp2_with fail
    refine (eqI_any _ _ _ _ _ _ w5.heap.size xs xs _ hm3 hm5 ((hr3.below hb5).more hb5.size) hr5).mono ?_
    rintro e w6 ⟨rfl, q, rfl⟩
    rw [decide_eq_true (rfl : xs = xs)]
    go_wp2_with fail
    go_ret
    exact ⟨rfl, below_drewN (hb13.trans (hb5.mono hb13.size)) _⟩
end Go.Proofs.Ytoeaihancoglpaa
