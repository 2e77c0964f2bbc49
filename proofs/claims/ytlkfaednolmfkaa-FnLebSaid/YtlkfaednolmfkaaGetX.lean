/-
  LEB128 is read: the walks of impl.GetLeb, spec.GetSleb, impl.GetSleb (by program: gen_getx.py).
-/
import Derived.Test.YtlkfaednolmfkaaGetW
namespace Go.Proofs.Ytlkfaednolmfkaa
open Go.RowKit
set_option linter.unusedVariables false
set_option linter.unusedSimpArgs false
set_option linter.unnecessarySimpa false
set_option maxRecDepth 16000

def NO : Ending := .returned (.tuple #[.int .i64 0, .int .i64 0, .bool false])
set_option maxHeartbeats 800000 in
theorem implGetLeb_any (s : ByteArray) (hs : s.size ≤ maxLen) (w : World) : Calls Try.prog 15 #[.string s] w fun e w' => e = getRes (getLeb s) ∧ w = w' := by
  unfold maxLen at hs
  go_enter Try.func15, Try.ntmps15
  go_wp2_with fail
  go_loop [5, 6] (fun n i => ∃ (k : Nat) (v : Int), k ≤ s.size ∧ k ≤ 9 ∧ i = .int .i64 k ∧ n = .int .u64 v ∧ Hid (v = val ((byt s).take k)) ∧ Hid (∀ (j : Nat) (x : Int), j < k → (byt s)[j]? = some x → 128 ≤ x)) (fun _ i => 9 - (intOf i).toNat)
  case atStart => exact ⟨0, 0, Nat.zero_le _, by omega, rfl, rfl, Lib.hid rfl, Lib.hid fun j x h => absurd h (by omega)⟩
  case round =>
    obtain ⟨k, v, hk, hk9, rfl, rfl, HV, HP⟩ := hrel
    by_cases hlt : k < s.size
    case neg =>
      have HF : Hid (getRes (getLeb s) = NO) := by show _ = _; rw [getLeb_none (s := s) (pref_none fun j x hj hx => HP.out j x (by have := (List.getElem?_eq_some_iff.1 hx).1; simp at this; omega) hx)]; rfl
      go_wp2_with fail
      go_ret3
      exact ⟨HF.out.symm, rfl⟩
    by_cases h9 : k < 9
    case neg =>
      have HF : Hid (getRes (getLeb s) = NO) := by show _ = _; rw [getLeb_none (s := s) (pref_none fun j x hj hx => HP.out j x (by omega) hx)]; rfl
      go_wp2_with fail
      go_ret3
      exact ⟨HF.out.symm, rfl⟩
    have hb := byt_get hlt
    have hb255 : s[k].toNat < 256 := s[k].toNat_lt
    have hst := u64_bits8 (by omega) hb255 hb HV.out
    have hnw : wrap64 (val ((byt s).take (k + 1))) = val ((byt s).take (k + 1)) := by
      obtain ⟨_, _, h2⟩ := val_step hb
      have h0 := val_nonneg ((byt s).take (k + 1))
      have := pow9 (k := k + 1) (by omega)
      exact wrap64_id (by omega) (by omega)
    obtain ⟨nv, hnv⟩ : ∃ nv, nv = val ((byt s).take (k + 1)) := ⟨_, rfl⟩
    rw [← hnv] at hst hnw
    have HN := Lib.hid hnv
    have HB := Lib.hid hb
    clear hb hnv
    by_cases hc : s[k].toNat < 128
    case neg =>
      go_wp2_with fail
      go_round
      case rel => exact ⟨k + 1, nv, by omega, by omega, by go_num, by first | rfl | simpa using hst, HN, Lib.hid (hi_next HP.out HB.out (by omega))⟩
      case measure => simp [intOf]; omega
    have HPR := Lib.hid (pref_hit HP.out HB.out (by omega) h9)
    by_cases hz : 0 < k ∧ s[k].toNat = 0
    · obtain ⟨hz1, hz2⟩ := hz
      have HF : Hid (getRes (getLeb s) = NO) := by
        show _ = _
        rw [getLeb_no HPR.out (fun e => by have := (leb_short HP.out HB.out hc).1 e; omega)]; rfl
      go_wp2_with fail
      go_ret3
      exact ⟨HF.out.symm, rfl⟩
    · have HF : Hid (getRes (getLeb s) = .returned (.tuple #[.int .i64 nv, .int .i64 ((k + 1 : Nat) : Int), .bool true])) := by
        show _ = _
        rw [getLeb_yes HPR.out ((leb_short HP.out HB.out hc).2 (by omega)), HN.out]; rfl
      by_cases hk0 : k = 0
      · have hk1 : decide ((0 : Int) < (k : Int)) = false := decide_eq_false (by omega)
        have HK0 := Lib.hid hk0
        clear hz hk0
        go_wp2_with fail
        all_goals first | (exfalso; have := HK0.out; omega) | (go_ret3; exact ⟨by rw [HF.out]; simp, rfl⟩)
      · have hk1 : (0 : Int) < (k : Int) := by omega
        have hn0 : s[k].toNat ≠ 0 := by omega
        have hn1 : ((s[k].toNat : Int) == 0) = false := by simp; omega
        go_wp2_with fail
        go_ret3
        exact ⟨by rw [HF.out]; simp, rfl⟩
set_option maxHeartbeats 3200000 in
theorem specGetSleb_any (s : ByteArray) (hs : s.size ≤ maxLen) (w : World) : Calls Try.prog 32 #[.string s] w fun e w' => e = getRes (getSleb s) ∧ Below w.heap.size w w' := by
  unfold maxLen at hs
  go_enter Try.func32, Try.ntmps32
  go_wp2_with fail
  go_loopw [5, 6] (fun n i wr => ∃ (k : Nat) (v : Int), k ≤ s.size ∧ k ≤ 10 ∧ i = .int .i64 k ∧ n = .int .i64 v ∧ Hid (k ≤ 9 → v = val ((byt s).take k)) ∧ Hid (∀ (j : Nat) (x : Int), j < k → (byt s)[j]? = some x → 128 ≤ x) ∧ w = wr) (fun _ i _ => 10 - (intOf i).toNat)
  case atStart => exact ⟨0, 0, Nat.zero_le _, by omega, rfl, rfl, Lib.hid fun _ => rfl, Lib.hid fun j x h => absurd h (by omega), rfl⟩
  case round =>
    obtain ⟨k, v, hk, hk9, rfl, rfl, HV, HP, hww⟩ := hrel
    obtain rfl := hww
    by_cases hlt : k < s.size
    case neg =>
      have HF : Hid (getRes (getSleb s) = NO) := by show _ = _; rw [getSleb_none (s := s) (pref_none fun j x hj hx => HP.out j x (by have := (List.getElem?_eq_some_iff.1 hx).1; simp at this; omega) hx)]; rfl
      go_wp2_with fail
      go_ret3
      exact ⟨HF.out.symm, Below.refl _ _⟩
    by_cases h9 : k < 10
    case neg =>
      have HF : Hid (getRes (getSleb s) = NO) := by show _ = _; rw [getSleb_none (s := s) (pref_none fun j x hj hx => HP.out j x (by omega) hx)]; rfl
      go_wp2_with fail
      go_ret3
      exact ⟨HF.out.symm, Below.refl _ _⟩
    have hb := byt_get hlt
    have hb255 : s[k].toNat < 256 := s[k].toNat_lt
    have hst := leb_bits9 (by omega) hb255 hb (HV.out (by omega))
    obtain ⟨nv, hnv⟩ : ∃ nv, nv = wrap64 (val ((byt s).take (k + 1))) := ⟨_, rfl⟩
    have HVN : Hid (k + 1 ≤ 9 → nv = val ((byt s).take (k + 1))) := fun h => by
      obtain ⟨_, _, h2⟩ := val_step hb
      have h0 := val_nonneg ((byt s).take (k + 1))
      have := pow9 (k := k + 1) h
      rw [hnv]; exact wrap64_id (by omega) (by omega)
    rw [← hnv] at hst
    have HN := Lib.hid hnv
    have HB := Lib.hid hb
    clear hb hnv
    by_cases hc : s[k].toNat < 128
    case neg =>
      go_wp2_with fail
      go_roundw
      case rel => exact ⟨k + 1, nv, by omega, by omega, by go_num, by first | rfl | simpa using hst, HVN, Lib.hid (hi_next HP.out HB.out (by omega)), by first | rfl | trivial⟩
      case measure => simp [intOf]; omega
    have HPR := Lib.hid (pref_hit HP.out HB.out (by omega) h9)
    have HY := Lib.hid (getSleb_yes HPR.out)
    have HNo := Lib.hid (getSleb_no HPR.out)
    have hw := sval_wf (byt s) (k + 1) (by simp; omega)
    obtain ⟨sv, hsv⟩ : ∃ sv, sv = svalAt (byt s) (k + 1) := ⟨_, rfl⟩
    rw [← hsv] at HY HNo hw
    have HPL := Lib.hid (specPutSleb_any sv hw w.drew)
    have HSV := Lib.hid hsv
    clear hsv hw
    obtain ⟨x, hx⟩ : ∃ x, x = strOfNums (sleb sv) := ⟨_, rfl⟩
    rw [← hx] at HPL HY HNo
    clear hx
    have ha64 := and64 hc
    have hi1 : IntKind.i64.wrap ((k : Int) + 1) = ((k + 1 : Nat) : Int) := by rw [IntWalk.i64_in _ (by omega)]; rfl
    have hbd1 : (0 : Int) ≤ (k : Int) + 1 := by omega
    have hbd2 : (k : Int) + 1 ≤ (s.size : Int) := by omega
    by_cases hsg : k < 9 ∧ 64 ≤ s[k].toNat
    case pos =>
      obtain ⟨hk8, h64⟩ := hsg
      have hk8' : (k : Int) < 9 := by omega
      rw [if_pos h64] at ha64
      have hsb : bits .or .i64 nv (wrap64 (-2 ^ (7 * k + 7))) = sv := by rw [show 7 * k + 7 = 7 * (k + 1) by omega]; rw [sign_bits (by omega) HB.out HN.out, HSV.out, sval_sign (by omega) HB.out h64]
      by_cases hxe : x = s.extract 0 (k + 1)
      case pos =>
        have HF : Hid (getRes (getSleb s) = .returned (.tuple #[.int .i64 sv, .int .i64 ((k + 1 : Nat) : Int), .bool true])) := by show _ = _; rw [HY.out hxe]; rfl
        subst hxe
        go_wp2_with fail
        go_region_held3 (fun _ => True) (trivial) (first | (go_at_call 58; refine HPL.out.mono ?_; rintro e w2 ⟨rfl, hb2⟩; have hB2 := (Below.refl w.heap.size w).drew.trans hb2))
        go_wp2_with fail
        go_ret3
        exact ⟨by rw [HF.out]; simp, hB2⟩
      have HF : Hid (getRes (getSleb s) = NO) := by show _ = _; rw [HNo.out hxe]; rfl
      have hs2 : (x.toList == (s.extract 0 (k + 1)).toList) = false := str_ne2 hxe
      go_wp2_with fail
      go_region_held3 (fun _ => True) (trivial) (first | (go_at_call 58; refine HPL.out.mono ?_; rintro e w2 ⟨rfl, hb2⟩; have hB2 := (Below.refl w.heap.size w).drew.trans hb2))
      go_wp2_with fail
      go_ret3
      exact ⟨by rw [HF.out]; rfl, hB2⟩
    have hnsv : nv = sv := by rw [HN.out, HSV.out, sval_plain HB.out hsg]
    subst hnsv
    by_cases hk8 : k < 9
    case pos =>
      have hk8' : (k : Int) < 9 := by omega
      have h64 : ¬ 64 ≤ s[k].toNat := fun h => hsg ⟨hk8, h⟩
      rw [if_neg h64] at ha64
      by_cases hxe : x = s.extract 0 (k + 1)
      case pos =>
        have HF : Hid (getRes (getSleb s) = .returned (.tuple #[.int .i64 nv, .int .i64 ((k + 1 : Nat) : Int), .bool true])) := by show _ = _; rw [HY.out hxe]; rfl
        subst hxe
        go_wp2_with fail
        go_region_held3 (fun _ => True) (trivial) (first | (go_at_call 58; refine HPL.out.mono ?_; rintro e w2 ⟨rfl, hb2⟩; have hB2 := (Below.refl w.heap.size w).drew.trans hb2))
        go_wp2_with fail
        go_ret3
        exact ⟨by rw [HF.out]; simp, hB2⟩
      have HF : Hid (getRes (getSleb s) = NO) := by show _ = _; rw [HNo.out hxe]; rfl
      have hs2 : (x.toList == (s.extract 0 (k + 1)).toList) = false := str_ne2 hxe
      go_wp2_with fail
      go_region_held3 (fun _ => True) (trivial) (first | (go_at_call 58; refine HPL.out.mono ?_; rintro e w2 ⟨rfl, hb2⟩; have hB2 := (Below.refl w.heap.size w).drew.trans hb2))
      go_wp2_with fail
      go_ret3
      exact ⟨by rw [HF.out]; rfl, hB2⟩
    have hk8' : ¬ (k : Int) < 9 := by omega
    clear ha64
    by_cases hxe : x = s.extract 0 (k + 1)
    case pos =>
      have HF : Hid (getRes (getSleb s) = .returned (.tuple #[.int .i64 nv, .int .i64 ((k + 1 : Nat) : Int), .bool true])) := by show _ = _; rw [HY.out hxe]; rfl
      subst hxe
      go_wp2_with fail
      go_region_held3 (fun _ => True) (trivial) (first | (go_at_call 58; refine HPL.out.mono ?_; rintro e w2 ⟨rfl, hb2⟩; have hB2 := (Below.refl w.heap.size w).drew.trans hb2))
      go_wp2_with fail
      go_ret3
      exact ⟨by rw [HF.out]; simp, hB2⟩
    have HF : Hid (getRes (getSleb s) = NO) := by show _ = _; rw [HNo.out hxe]; rfl
    have hs2 : (x.toList == (s.extract 0 (k + 1)).toList) = false := str_ne2 hxe
    go_wp2_with fail
    go_region_held3 (fun _ => True) (trivial) (first | (go_at_call 58; refine HPL.out.mono ?_; rintro e w2 ⟨rfl, hb2⟩; have hB2 := (Below.refl w.heap.size w).drew.trans hb2))
    go_wp2_with fail
    go_ret3
    exact ⟨by rw [HF.out]; rfl, hB2⟩
set_option maxHeartbeats 3200000 in
theorem implGetSleb_any (s : ByteArray) (hs : s.size ≤ maxLen) (w : World) : Calls Try.prog 13 #[.string s] w fun e w' => e = getRes (getSleb s) ∧ Below w.heap.size w w' := by
  unfold maxLen at hs
  go_enter Try.func13, Try.ntmps13
  go_wp2_with fail
  go_loopw [5, 6] (fun n i wr => ∃ (k : Nat) (v : Int), k ≤ s.size ∧ k ≤ 10 ∧ i = .int .i64 k ∧ n = .int .i64 v ∧ Hid (k ≤ 9 → v = val ((byt s).take k)) ∧ Hid (∀ (j : Nat) (x : Int), j < k → (byt s)[j]? = some x → 128 ≤ x) ∧ w = wr) (fun _ i _ => 10 - (intOf i).toNat)
  case atStart => exact ⟨0, 0, Nat.zero_le _, by omega, rfl, rfl, Lib.hid fun _ => rfl, Lib.hid fun j x h => absurd h (by omega), rfl⟩
  case round =>
    obtain ⟨k, v, hk, hk9, rfl, rfl, HV, HP, hww⟩ := hrel
    obtain rfl := hww
    by_cases hlt : k < s.size
    case neg =>
      have HF : Hid (getRes (getSleb s) = NO) := by show _ = _; rw [getSleb_none (s := s) (pref_none fun j x hj hx => HP.out j x (by have := (List.getElem?_eq_some_iff.1 hx).1; simp at this; omega) hx)]; rfl
      go_wp2_with fail
      go_ret3
      exact ⟨HF.out.symm, Below.refl _ _⟩
    by_cases h9 : k < 10
    case neg =>
      have HF : Hid (getRes (getSleb s) = NO) := by show _ = _; rw [getSleb_none (s := s) (pref_none fun j x hj hx => HP.out j x (by omega) hx)]; rfl
      go_wp2_with fail
      go_ret3
      exact ⟨HF.out.symm, Below.refl _ _⟩
    have hb := byt_get hlt
    have hb255 : s[k].toNat < 256 := s[k].toNat_lt
    have hst := leb_bits9 (by omega) hb255 hb (HV.out (by omega))
    obtain ⟨nv, hnv⟩ : ∃ nv, nv = wrap64 (val ((byt s).take (k + 1))) := ⟨_, rfl⟩
    have HVN : Hid (k + 1 ≤ 9 → nv = val ((byt s).take (k + 1))) := fun h => by
      obtain ⟨_, _, h2⟩ := val_step hb
      have h0 := val_nonneg ((byt s).take (k + 1))
      have := pow9 (k := k + 1) h
      rw [hnv]; exact wrap64_id (by omega) (by omega)
    rw [← hnv] at hst
    have HN := Lib.hid hnv
    have HB := Lib.hid hb
    clear hb hnv
    by_cases hc : s[k].toNat < 128
    case neg =>
      go_wp2_with fail
      go_roundw
      case rel => exact ⟨k + 1, nv, by omega, by omega, by go_num, by first | rfl | simpa using hst, HVN, Lib.hid (hi_next HP.out HB.out (by omega)), by first | rfl | trivial⟩
      case measure => simp [intOf]; omega
    have HPR := Lib.hid (pref_hit HP.out HB.out (by omega) h9)
    have HY := Lib.hid (getSleb_yes HPR.out)
    have HNo := Lib.hid (getSleb_no HPR.out)
    have hw := sval_wf (byt s) (k + 1) (by simp; omega)
    obtain ⟨sv, hsv⟩ : ∃ sv, sv = svalAt (byt s) (k + 1) := ⟨_, rfl⟩
    rw [← hsv] at HY HNo hw
    have HPL := Lib.hid (implPutSleb_any sv hw w.drew)
    have HSV := Lib.hid hsv
    clear hsv hw
    obtain ⟨x, hx⟩ : ∃ x, x = strOfNums (sleb sv) := ⟨_, rfl⟩
    rw [← hx] at HPL HY HNo
    clear hx
    have ha64 := and64 hc
    have hi1 : IntKind.i64.wrap ((k : Int) + 1) = ((k + 1 : Nat) : Int) := by rw [IntWalk.i64_in _ (by omega)]; rfl
    have hbd1 : (0 : Int) ≤ (k : Int) + 1 := by omega
    have hbd2 : (k : Int) + 1 ≤ (s.size : Int) := by omega
    by_cases hsg : k < 9 ∧ 64 ≤ s[k].toNat
    case pos =>
      obtain ⟨hk8, h64⟩ := hsg
      have hk8' : (k : Int) < 9 := by omega
      rw [if_pos h64] at ha64
      have hsb : bits .or .i64 nv (wrap64 (-2 ^ (7 * (k + 1)))) = sv := by rw [sign_bits (by omega) HB.out HN.out, HSV.out, sval_sign (by omega) HB.out h64]
      by_cases hxe : x = s.extract 0 (k + 1)
      case pos =>
        have HF : Hid (getRes (getSleb s) = .returned (.tuple #[.int .i64 sv, .int .i64 ((k + 1 : Nat) : Int), .bool true])) := by show _ = _; rw [HY.out hxe]; rfl
        subst hxe
        go_wp2_with fail
        go_region_held3 (fun _ => True) (trivial) (first | (go_at_call 12; refine HPL.out.mono ?_; rintro e w2 ⟨rfl, hb2⟩; have hB2 := (Below.refl w.heap.size w).drew.trans hb2))
        go_wp2_with fail
        go_ret3
        exact ⟨by rw [HF.out]; simp, hB2⟩
      have HF : Hid (getRes (getSleb s) = NO) := by show _ = _; rw [HNo.out hxe]; rfl
      have hs2 : (x.toList == (s.extract 0 (k + 1)).toList) = false := str_ne2 hxe
      go_wp2_with fail
      go_region_held3 (fun _ => True) (trivial) (first | (go_at_call 12; refine HPL.out.mono ?_; rintro e w2 ⟨rfl, hb2⟩; have hB2 := (Below.refl w.heap.size w).drew.trans hb2))
      go_wp2_with fail
      go_ret3
      exact ⟨by rw [HF.out]; rfl, hB2⟩
    have hnsv : nv = sv := by rw [HN.out, HSV.out, sval_plain HB.out hsg]
    subst hnsv
    by_cases hk8 : k < 9
    case pos =>
      have hk8' : (k : Int) < 9 := by omega
      have h64 : ¬ 64 ≤ s[k].toNat := fun h => hsg ⟨hk8, h⟩
      rw [if_neg h64] at ha64
      by_cases hxe : x = s.extract 0 (k + 1)
      case pos =>
        have HF : Hid (getRes (getSleb s) = .returned (.tuple #[.int .i64 nv, .int .i64 ((k + 1 : Nat) : Int), .bool true])) := by show _ = _; rw [HY.out hxe]; rfl
        subst hxe
        go_wp2_with fail
        go_region_held3 (fun _ => True) (trivial) (first | (go_at_call 12; refine HPL.out.mono ?_; rintro e w2 ⟨rfl, hb2⟩; have hB2 := (Below.refl w.heap.size w).drew.trans hb2))
        go_wp2_with fail
        go_ret3
        exact ⟨by rw [HF.out]; simp, hB2⟩
      have HF : Hid (getRes (getSleb s) = NO) := by show _ = _; rw [HNo.out hxe]; rfl
      have hs2 : (x.toList == (s.extract 0 (k + 1)).toList) = false := str_ne2 hxe
      go_wp2_with fail
      go_region_held3 (fun _ => True) (trivial) (first | (go_at_call 12; refine HPL.out.mono ?_; rintro e w2 ⟨rfl, hb2⟩; have hB2 := (Below.refl w.heap.size w).drew.trans hb2))
      go_wp2_with fail
      go_ret3
      exact ⟨by rw [HF.out]; rfl, hB2⟩
    have hk8' : ¬ (k : Int) < 9 := by omega
    clear ha64
    by_cases hxe : x = s.extract 0 (k + 1)
    case pos =>
      have HF : Hid (getRes (getSleb s) = .returned (.tuple #[.int .i64 nv, .int .i64 ((k + 1 : Nat) : Int), .bool true])) := by show _ = _; rw [HY.out hxe]; rfl
      subst hxe
      go_wp2_with fail
      go_region_held3 (fun _ => True) (trivial) (first | (go_at_call 12; refine HPL.out.mono ?_; rintro e w2 ⟨rfl, hb2⟩; have hB2 := (Below.refl w.heap.size w).drew.trans hb2))
      go_wp2_with fail
      go_ret3
      exact ⟨by rw [HF.out]; simp, hB2⟩
    have HF : Hid (getRes (getSleb s) = NO) := by show _ = _; rw [HNo.out hxe]; rfl
    have hs2 : (x.toList == (s.extract 0 (k + 1)).toList) = false := str_ne2 hxe
    go_wp2_with fail
    go_region_held3 (fun _ => True) (trivial) (first | (go_at_call 12; refine HPL.out.mono ?_; rintro e w2 ⟨rfl, hb2⟩; have hB2 := (Below.refl w.heap.size w).drew.trans hb2))
    go_wp2_with fail
    go_ret3
    exact ⟨by rw [HF.out]; rfl, hB2⟩
end Go.Proofs.Ytlkfaednolmfkaa

