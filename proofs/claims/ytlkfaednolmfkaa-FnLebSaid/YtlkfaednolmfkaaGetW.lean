/-
  LEB128 is read: the walks of spec.l01Leb, GetLeb, GetSleb, impl.GetLeb, GetSleb.
-/
import Derived.Test.YtlkfaednolmfkaaGet
import Derived.Test.YtlkfaednolmfkaaIdx
namespace Go.Proofs.Ytlkfaednolmfkaa
open Go.RowKit
set_option linter.unusedVariables false
set_option linter.unusedSimpArgs false
set_option linter.unnecessarySimpa false
set_option maxRecDepth 16000

def lebP (s : ByteArray) : Ending := match pref 9 (byt s) with
  | none => .returned (.tuple #[.int .i64 0, .int .i64 0])
  | some m => .returned (.tuple #[.int .i64 (val ((byt s).take m)), .int .i64 m])
theorem lebP_some {s : ByteArray} {m : Nat} (h : pref 9 (byt s) = some m) : lebP s = .returned (.tuple #[.int .i64 (val ((byt s).take m)), .int .i64 m]) := by rw [lebP, h]
theorem lebP_none {s : ByteArray} (h : pref 9 (byt s) = none) : lebP s = .returned (.tuple #[.int .i64 0, .int .i64 0]) := by rw [lebP, h]
set_option maxHeartbeats 800000 in
theorem l01Leb_any (s : ByteArray) (hs : s.size ≤ maxLen) (w : World) : Calls Try.prog 59 #[.string s] w fun e w' => e = lebP s ∧ w = w' := by
  unfold maxLen at hs
  go_enter Try.func59, Try.ntmps59
  go_wp2_with fail
  go_loop [4, 5] (fun n i => ∃ (k : Nat) (v : Int), k ≤ s.size ∧ k ≤ 9 ∧ i = .int .i64 k ∧ n = .int .i64 v ∧ Hid (v = val ((byt s).take k)) ∧ Hid (∀ (j : Nat) (x : Int), j < k → (byt s)[j]? = some x → 128 ≤ x)) (fun _ i => 9 - (intOf i).toNat)
  case atStart => exact ⟨0, 0, Nat.zero_le _, by omega, rfl, rfl, Lib.hid rfl, Lib.hid fun j x h => absurd h (by omega)⟩
  case round =>
    obtain ⟨k, v, hk, hk9, rfl, rfl, HV, HP⟩ := hrel
    by_cases hlt : k < s.size
    case neg =>
      have HF := Lib.hid (lebP_none (s := s) (pref_none fun j x hj hx => HP.out j x (by have := (List.getElem?_eq_some_iff.1 hx).1; simp at this; omega) hx))
      go_wp2_with fail
      go_ret2
      exact ⟨HF.out.symm, rfl⟩
    by_cases h9 : k < 9
    case neg =>
      have HF := Lib.hid (lebP_none (s := s) (pref_none fun j x hj hx => HP.out j x (by omega) hx))
      go_wp2_with fail
      go_ret2
      exact ⟨HF.out.symm, rfl⟩
    have hb := byt_get hlt
    have hb255 : s[k].toNat < 256 := s[k].toNat_lt
    have hst := leb_bits8 (by omega) hb255 hb HV.out
    obtain ⟨nv, hnv⟩ : ∃ nv, nv = val ((byt s).take (k + 1)) := ⟨_, rfl⟩
    rw [← hnv] at hst
    have HN := Lib.hid hnv
    have HB := Lib.hid hb
    clear hb hnv
    by_cases hc : s[k].toNat < 128
    · have HF := Lib.hid (lebP_some (pref_hit HP.out HB.out (by omega) h9))
      go_wp2_with fail
      go_ret2
      exact ⟨by rw [HF.out, ← HN.out]; simp, rfl⟩
    · go_wp2_with fail
      go_round
      case rel => exact ⟨k + 1, nv, by omega, by omega, by go_num, by simpa using hst, HN, Lib.hid (hi_next HP.out HB.out (by omega))⟩
      case measure => simp [intOf]; omega

theorem getLeb_none {s : ByteArray} (h : pref 9 (byt s) = none) : getLeb s = none := by rw [getLeb, h]
theorem getLeb_yes {s : ByteArray} {m : Nat} (h : pref 9 (byt s) = some m) (e : strOfNums (leb (val ((byt s).take m))) = s.extract 0 m) : getLeb s = some (val ((byt s).take m), m) := by rw [getLeb, h]; simp only; rw [if_pos e]
theorem getLeb_no {s : ByteArray} {m : Nat} (h : pref 9 (byt s) = some m) (e : ¬ strOfNums (leb (val ((byt s).take m))) = s.extract 0 m) : getLeb s = none := by rw [getLeb, h]; simp only; rw [if_neg e]
theorem getSleb_none {s : ByteArray} (h : pref 10 (byt s) = none) : getSleb s = none := by rw [getSleb, h]
theorem getSleb_yes {s : ByteArray} {m : Nat} (h : pref 10 (byt s) = some m) (e : strOfNums (sleb (svalAt (byt s) m)) = s.extract 0 m) : getSleb s = some (svalAt (byt s) m, m) := by rw [getSleb, h]; simp only; rw [if_pos e]
theorem getSleb_no {s : ByteArray} {m : Nat} (h : pref 10 (byt s) = some m) (e : ¬ strOfNums (sleb (svalAt (byt s) m)) = s.extract 0 m) : getSleb s = none := by rw [getSleb, h]; simp only; rw [if_neg e]
theorem pref_le : ∀ {f : Nat} {l : List Int} {m : Nat}, pref f l = some m → 1 ≤ m ∧ m ≤ f ∧ m ≤ l.length
  | 0, l, m, h => by cases l <;> simp [pref] at h
  | f + 1, [], m, h => by simp [pref] at h
  | f + 1, b :: r, m, h => by
    rw [pref] at h
    split at h
    · injection h with h
      subst h
      simp
    · obtain ⟨q, hq, rfl⟩ := Option.map_eq_some_iff.1 h
      have := pref_le hq
      simp
      omega
set_option maxHeartbeats 800000 in
theorem specGetLeb_any (s : ByteArray) (hs : s.size ≤ maxLen) (w : World) : Calls Try.prog 33 #[.string s] w fun e w' => e = getRes (getLeb s) ∧ Below w.heap.size w w' := by
  have HL := Lib.hid (l01Leb_any s hs w)
  unfold maxLen at hs
  cases hp : pref 9 (byt s) with
  | none =>
    have HF : Hid (getRes (getLeb s) = .returned (.tuple #[.int .i64 0, .int .i64 0, .bool false])) := by show _ = _; rw [getLeb_none hp]; rfl
    rw [lebP_none hp] at HL
    clear hp
    go_enter Try.func33, Try.ntmps33
    go_wp2_with fail
    refine HL.out.mono ?_
    rintro e w1 ⟨rfl, rfl⟩
    go_wp2_with fail
    go_quiet (fail)
    go_wp2_with fail
    go_ret3
    exact ⟨HF.out.symm, below_drewN (Below.refl _ _) _⟩
  | some m =>
    obtain ⟨h1, h9, hle⟩ := pref_le hp
    rw [byt_length] at hle
    rw [lebP_some hp] at HL
    have hv0 := val_nonneg ((byt s).take m)
    have hv1 : val ((byt s).take m) ≤ 9223372036854775807 := by
      have a := val_lt ((byt s).take m)
      have b := pow9 (k := ((byt s).take m).length) (by simp; omega)
      omega
    have HY := Lib.hid (getLeb_yes hp)
    have HNo := Lib.hid (getLeb_no hp)
    obtain ⟨v, hv⟩ : ∃ v, v = val ((byt s).take m) := ⟨_, rfl⟩
    rw [← hv] at HL hv0 hv1 HY HNo
    have hm0 : ((m : Int) == 0) = false := by simp; omega
    have hw : (Lit.int .i64 v).wf = true := by
      have : -9223372036854775808 ≤ v ∧ v ≤ 9223372036854775807 := ⟨by omega, hv1⟩
      simpa [Lit.wf, IntKind.min, IntKind.max, IntKind.signed, IntKind.bits] using this
    have HPL := Lib.hid (specPutLeb_any v hv0 hw w.drew)
    obtain ⟨x, hx⟩ : ∃ x, x = strOfNums (leb v) := ⟨_, rfl⟩
    rw [← hx] at HPL HY HNo
    have hbd1 : (0 : Int) ≤ (m : Int) := by omega
    have hbd2 : (m : Int) ≤ (s.size : Int) := by omega
    clear hp hv hx hv0 hv1 hw
    by_cases hxe : x = s.extract 0 m
    · have HF : Hid (getRes (getLeb s) = .returned (.tuple #[.int .i64 v, .int .i64 m, .bool true])) := by show _ = _; rw [HY.out hxe]; rfl
      go_enter Try.func33, Try.ntmps33
      go_wp2_with fail
      refine HL.out.mono ?_
      rintro e w1 ⟨rfl, rfl⟩
      go_wp2_with fail
      go_region_held3 (fun _ => True) (trivial) (first | (go_at_call 43; refine HPL.out.mono ?_; rintro e w2 ⟨rfl, hb2⟩; have hB2 := (Below.refl w.heap.size w).drew.trans hb2))
      go_wp2_with fail
      go_ret3
      exact ⟨HF.out.symm, hB2⟩
    · have HF : Hid (getRes (getLeb s) = .returned (.tuple #[.int .i64 0, .int .i64 0, .bool false])) := by show _ = _; rw [HNo.out hxe]; rfl
      have hs2 : (x.toList == (s.extract 0 m).toList) = false := str_ne2 hxe
      go_enter Try.func33, Try.ntmps33
      go_wp2_with fail
      refine HL.out.mono ?_
      rintro e w1 ⟨rfl, rfl⟩
      go_wp2_with fail
      go_region_held3 (fun _ => True) (trivial) (first | (go_at_call 43; refine HPL.out.mono ?_; rintro e w2 ⟨rfl, hb2⟩; have hB2 := (Below.refl w.heap.size w).drew.trans hb2))
      go_wp2_with fail
      go_ret3
      exact ⟨HF.out.symm, hB2⟩
end Go.Proofs.Ytlkfaednolmfkaa

