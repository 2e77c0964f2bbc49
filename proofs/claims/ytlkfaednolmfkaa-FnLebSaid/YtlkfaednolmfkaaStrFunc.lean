/-
  strings.ContainsFunc: the shelf's contract laid over this program (by program: gen_strfunc.py); a test of each rune that says 'some byte' when it speaks of ASCII.
-/
import Derived.Test.YtlkfaednolmfkaaRows
import Derived.Test.YtlkfaednolmfkaaBase
import Derived.Shelf.GgClosure.StringsIndexFuncTop
import Derived.Lib.RabinKarpLaws
namespace Go.Proofs.Ytlkfaednolmfkaa
open Go.RowKit Go.Shelf
set_option linter.unusedVariables false
set_option linter.unusedSimpArgs false
set_option maxRecDepth 100000
def sf_ren : Go.Shelf.Ren := ⟨fun
    | 15 => 90 | 17 => 87 | 20 => 91 | n => n, fun
    | 0 => 0 | 3 => 3 | 4 => 4 | 9 => 9 | 21 => 21 | 23 => 99 | n => n, fun
    n => n⟩
set_option maxHeartbeats 2000000 in
theorem sf_lays : LaysGw.n17 Try.prog sf_ren where
  mixed := by kernel_rfl
  f15 := Try.func90.trans (congrArg some (by kernel_rfl))
  f17 := Try.func87.trans (congrArg some (by kernel_rfl))
  f20 := Try.func91.trans (congrArg some (by kernel_rfl))
  t0 := by kernel_rfl
  a0 := fun _ => by kernel_rfl
  z0 := fun _ => by kernel_rfl
  v0 := fun _ => by kernel_rfl
  i0 := by kernel_rfl
  t3 := by kernel_rfl
  a3 := fun _ => by kernel_rfl
  z3 := fun _ => by kernel_rfl
  v3 := fun _ => by kernel_rfl
  i3 := by kernel_rfl
  t4 := by kernel_rfl
  a4 := fun _ => by kernel_rfl
  z4 := fun _ => by kernel_rfl
  v4 := fun _ => by kernel_rfl
  i4 := by kernel_rfl
  t9 := by kernel_rfl
  a9 := fun _ => by kernel_rfl
  z9 := fun _ => by kernel_rfl
  v9 := fun _ => by kernel_rfl
  i9 := by kernel_rfl
  t21 := by kernel_rfl
  a21 := fun _ => by kernel_rfl
  z21 := fun _ => by kernel_rfl
  v21 := fun _ => by kernel_rfl
  i21 := by kernel_rfl
  t23 := by kernel_rfl
  a23 := fun _ => by kernel_rfl
  z23 := fun _ => by kernel_rfl
  v23 := fun _ => by kernel_rfl
  i23 := by kernel_rfl
theorem strContains_any (fid : Nat) (p : Nat → Bool) (s : ByteArray) (w : World) (hcf : ∀ a W, Sem.run Try.prog (callFunc fid a) W = .ok (.enter fid a) W)
    (hp : ∀ (r : Nat) (W : World), Calls Try.prog fid (#[.int .i32 (r : Int)] ++ #[]) W fun e w' => e = .returned (.bool (p r)) ∧ W = w') :
    Calls Try.prog 87 #[.string s, .func (.func fid) #[] #[]] w fun e w' => e = .returned (.bool (decide (0 ≤ Lib.idxFunc p true s))) ∧ Below w.heap.size w w' :=
  Any.strings_ContainsFunc sf_lays fid #[] hcf p s w (fun W r _ => (hp r W).mono (by rintro e w' ⟨he, rfl⟩; exact ⟨he, 0, rfl⟩))
theorem rune_high (s : ByteArray) (pos : Nat) (h : 128 ≤ (s.get! pos).toNat) : 128 ≤ (Utf8.decode s pos).1 := by
  have h128 : ¬ (s.get! (pos + 0)).toNat < 0x80 := by simp; omega
  simp only [Utf8.decode, h128, if_false, Utf8.runeError]
  repeat' split
  all_goals first | omega | (simp_all; done) | (simp_all; omega)
theorem rune_low (s : ByteArray) (pos : Nat) (h : (s.get! pos).toNat < 128) : Utf8.decode s pos = ((s.get! pos).toNat, 1) := by
  have h128 : (s.get! (pos + 0)).toNat < 0x80 := by simpa using h
  simp only [Utf8.decode, h128, if_true]
  simp
/-- a rune that fails the test begins with a byte that fails it, and the other way round -/
theorem idxFrom_all {p : Nat → Bool} (hp : ∀ r, 128 ≤ r → p r = true) (s : ByteArray) : ∀ (f pos : Nat), s.size ≤ pos + f →
    (decide (0 ≤ Lib.idxFuncFrom p true s f pos) = (s.data.toList.drop pos).any fun b => p b.toNat)
  | 0, pos, h => by
    rw [List.drop_eq_nil_of_le (by simpa using h)]; rfl
  | f + 1, pos, h => by
    unfold Lib.idxFuncFrom
    by_cases hlt : pos < s.size
    · have hb : s.data.toList[pos]? = some s[pos] := Go.Proofs.byte_at s pos hlt
      have hd : s.data.toList.drop pos = s[pos] :: s.data.toList.drop (pos + 1) := by
        rw [List.drop_eq_getElem_cons (by simpa using hlt)]
        rfl
      have hg : s.get! pos = s[pos] := by
        rw [ByteArray.get!, getElem!_pos s.data pos hlt]; rfl
      rw [if_pos hlt, hd, List.any_cons]
      by_cases h8 : 128 ≤ (s.get! pos).toNat
      · rw [if_pos (hp _ (rune_high s pos h8)), ← hg, hp _ h8]
        simp
      · rw [rune_low s pos (by omega), hg]
        cases hpb : p s[pos].toNat
        · simp only [hpb, Bool.false_eq_true, if_false, Bool.false_or]
          exact idxFrom_all hp s f (pos + 1) (by omega)
        · simp [hpb]
    · rw [if_neg hlt, List.drop_eq_nil_of_le (by simp; omega)]; rfl
theorem idx_all {p : Nat → Bool} (hp : ∀ r, 128 ≤ r → p r = true) (s : ByteArray) : decide (0 ≤ Lib.idxFunc p true s) = s.data.toList.any fun b => p b.toNat := by
  have := idxFrom_all hp s s.size 0 (by omega)
  rw [List.drop_zero] at this
  exact this
end Go.Proofs.Ytlkfaednolmfkaa

