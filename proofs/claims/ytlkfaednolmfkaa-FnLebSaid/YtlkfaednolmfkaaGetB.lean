/-
  Length-prefixed strings are read: spec.GetBytes, impl.GetBytes.
-/
import Derived.Test.YtlkfaednolmfkaaInsOf
import Derived.Test.YtlkfaednolmfkaaSec
namespace Go.Proofs.Ytlkfaednolmfkaa
open Go.RowKit
set_option linter.unusedVariables false
set_option linter.unusedSimpArgs false
set_option linter.unnecessarySimpa false
set_option maxRecDepth 16000

def getB (s : ByteArray) : Option (ByteArray × Nat) :=
  match getLeb s with
  | none => none
  | some (n, m) => if n ≤ (s.size : Int) - m then some (s.extract m (m + n.toNat), m + n.toNat) else none
def getBRes (o : Option (ByteArray × Nat)) : Ending := match o with
  | none => .returned (.tuple #[.string ⟨#[]⟩, .int .i64 0, .bool false])
  | some (t, m) => .returned (.tuple #[.string t, .int .i64 m, .bool true])
theorem getLeb_nonneg {s : ByteArray} {n : Int} {m : Nat} (h : getLeb s = some (n, m)) : 0 ≤ n ∧ 1 ≤ m := by
  rw [getLeb] at h
  split at h
  · cases h
  · rename_i k hp
    split at h
    · injection h with h
      injection h with h1 h2
      subst h1 h2
      exact ⟨val_nonneg _, (pref_le hp).1⟩
    · cases h
theorem getB_none {s : ByteArray} (h : getLeb s = none) : getB s = none := by rw [getB, h]
theorem getB_yes {s : ByteArray} {n : Int} {m : Nat} (h : getLeb s = some (n, m)) (hn : n ≤ (s.size : Int) - m) : getB s = some (s.extract m (m + n.toNat), m + n.toNat) := by rw [getB, h]; exact if_pos hn
theorem getB_no {s : ByteArray} {n : Int} {m : Nat} (h : getLeb s = some (n, m)) (hn : ¬ n ≤ (s.size : Int) - m) : getB s = none := by rw [getB, h]; exact if_neg hn
theorem getB_le {s t : ByteArray} {m : Nat} (h : getB s = some (t, m)) : m ≤ s.size ∧ t.size ≤ s.size ∧ 1 ≤ m := by
  rw [getB] at h
  split at h
  · cases h
  · rename_i n k hg
    obtain ⟨h0, h1⟩ := getLeb_nonneg hg
    split at h
    · injection h with h
      injection h with h2 h3
      subst h2 h3
      refine ⟨by omega, by rw [ByteArray.size_extract]; omega, by omega⟩
    · cases h
def GetBOk (f : Nat) : Prop := ∀ (s : ByteArray), s.size ≤ maxLen → ∀ w : World, Calls Try.prog f #[.string s] w fun e w' => e = getBRes (getB s) ∧ Below w.heap.size w w'
set_option maxHeartbeats 1600000 in
theorem specGetBytes_any : GetBOk 69 := by
  intro s hs w
  have HL := Lib.hid (specGetLeb_any s hs w)
  unfold maxLen at hs
  cases hg : getLeb s with
  | none =>
    have HF : Hid (getBRes (getB s) = .returned (.tuple #[.string ⟨#[]⟩, .int .i64 0, .bool false])) := by show _ = _; rw [getB_none hg]; rfl
    rw [hg] at HL
    clear hg
    go_enter Try.func69, Try.ntmps69
    go_wp2_with fail
    refine HL.out.mono ?_
    rintro e w1 ⟨rfl, hb1⟩
    simp only [getRes]
    go_wp2_with fail
    go_ret3
    exact ⟨HF.out.symm, hb1⟩
  | some p =>
    obtain ⟨n, m⟩ := p
    obtain ⟨h0, h1⟩ := getLeb_nonneg hg
    obtain ⟨hw, hm⟩ := getLeb_wf hg
    have hw2 := wf64 hw
    have HY := Lib.hid (getB_yes hg)
    have HN := Lib.hid (getB_no hg)
    rw [hg] at HL
    have hsub : IntKind.i64.wrap ((s.size : Int) - (m : Int)) = (s.size : Int) - m := IntWalk.i64_in _ (by omega)
    clear hg hw
    by_cases hn : n ≤ (s.size : Int) - m
    · have hadd : IntKind.i64.wrap ((m : Int) + n) = (m : Int) + n := IntWalk.i64_in _ (by omega)
      obtain ⟨q, rfl⟩ : ∃ q : Nat, n = (q : Int) := ⟨n.toNat, by omega⟩
      have HF : Hid (getBRes (getB s) = .returned (.tuple #[.string (s.extract m (m + q)), .int .i64 ((m + q : Nat) : Int), .bool true])) := by show _ = _; rw [HY.out hn]; simp [getBRes]
      have hb1 : ((m : Int) + (q : Int)) ≤ (s.size : Int) := by omega
      have hn' : ¬ (s.size : Int) - m < (q : Int) := by omega
      go_enter Try.func69, Try.ntmps69
      go_wp2_with fail
      refine HL.out.mono ?_
      rintro e w1 ⟨rfl, hb1⟩
      simp only [getRes]
      go_wp2_with fail
      go_ret3
      exact ⟨by rw [HF.out]; simp, hb1⟩
    · have HF : Hid (getBRes (getB s) = .returned (.tuple #[.string ⟨#[]⟩, .int .i64 0, .bool false])) := by show _ = _; rw [HN.out hn]; rfl
      have hn' : (s.size : Int) - m < n := by omega
      go_enter Try.func69, Try.ntmps69
      go_wp2_with fail
      refine HL.out.mono ?_
      rintro e w1 ⟨rfl, hb1⟩
      simp only [getRes]
      go_wp2_with fail
      go_ret3
      exact ⟨HF.out.symm, hb1⟩
set_option maxHeartbeats 1600000 in
theorem implGetBytes_any : GetBOk 18 := by
  intro s hs w
  have HL := Lib.hid (implGetLeb_any s hs w)
  have HLn := Lib.hid (fun W => length_any s hs W)
  unfold maxLen at hs
  cases hg : getLeb s with
  | none =>
    have HF : Hid (getBRes (getB s) = .returned (.tuple #[.string ⟨#[]⟩, .int .i64 0, .bool false])) := by show _ = _; rw [getB_none hg]; rfl
    rw [hg] at HL
    clear hg
    go_enter Try.func18, Try.ntmps18
    go_wp2_with fail
    refine HL.out.mono ?_
    rintro e w1 ⟨rfl, rfl⟩
    simp only [getRes]
    go_wp2_with fail
    go_ret3
    exact ⟨HF.out.symm, Below.refl _ _⟩
  | some p =>
    obtain ⟨n, m⟩ := p
    obtain ⟨h0, h1⟩ := getLeb_nonneg hg
    obtain ⟨hw, hm⟩ := getLeb_wf hg
    have hw2 := wf64 hw
    have HY := Lib.hid (getB_yes hg)
    have HN := Lib.hid (getB_no hg)
    rw [hg] at HL
    have hsub : IntKind.i64.wrap ((s.size : Int) - (m : Int)) = (s.size : Int) - m := IntWalk.i64_in _ (by omega)
    clear hg hw
    by_cases hn : n ≤ (s.size : Int) - m
    · have hadd : IntKind.i64.wrap ((m : Int) + n) = (m : Int) + n := IntWalk.i64_in _ (by omega)
      obtain ⟨q, rfl⟩ : ∃ q : Nat, n = (q : Int) := ⟨n.toNat, by omega⟩
      have HF : Hid (getBRes (getB s) = .returned (.tuple #[.string (s.extract m (m + q)), .int .i64 ((m + q : Nat) : Int), .bool true])) := by show _ = _; rw [HY.out hn]; simp [getBRes]
      have hb1 : ((m : Int) + (q : Int)) ≤ (s.size : Int) := by omega
      have hn' : ¬ (s.size : Int) - m < (q : Int) := by omega
      go_enter Try.func18, Try.ntmps18
      go_wp2_with fail
      refine HL.out.mono ?_
      rintro e w1 ⟨rfl, rfl⟩
      simp only [getRes]
      go_wp2_with fail
      refine (HLn.out _).mono ?_
      rintro e w1 ⟨rfl, rfl⟩
      go_wp2_with fail
      go_ret3
      exact ⟨by rw [HF.out]; simp, Below.refl _ _⟩
    · have HF : Hid (getBRes (getB s) = .returned (.tuple #[.string ⟨#[]⟩, .int .i64 0, .bool false])) := by show _ = _; rw [HN.out hn]; rfl
      have hn' : (s.size : Int) - m < n := by omega
      go_enter Try.func18, Try.ntmps18
      go_wp2_with fail
      refine HL.out.mono ?_
      rintro e w1 ⟨rfl, rfl⟩
      simp only [getRes]
      go_wp2_with fail
      refine (HLn.out _).mono ?_
      rintro e w1 ⟨rfl, rfl⟩
      go_wp2_with fail
      go_ret3
      exact ⟨HF.out.symm, Below.refl _ _⟩
end Go.Proofs.Ytlkfaednolmfkaa

