/-
  GrowMem: the plain law (put at the end = give at the end).
-/
import Derived.Test.YtlppngpafjfjeaaGive
import Derived.Test.YtlppngpafjfjeaaGrowM
namespace Go.Proofs.Ytlppngpafjfjeaa
open Go.RowKit
set_option linter.unusedVariables false
set_option linter.unusedSimpArgs false
set_option linter.unnecessarySimpa false
set_option maxRecDepth 16000

theorem blkOk_all {n : Int} : ∀ {bs : List Block} {last : Int}, blkOk n last bs = true →
    (∀ x ∈ bs, last < x.at_ ∧ 0 < x.size ∧ x.at_ + x.size ≤ n) ∧ (∀ (j k : Nat) (x y : Block), j < k → bs[j]? = some x → bs[k]? = some y → x.at_ + x.size < y.at_)
  | [], last, _ => ⟨fun x h => (by cases h), fun j k x y _ h => (by simp at h)⟩
  | b :: bs, last, h => by
    rw [blkOk, Bool.and_eq_true] at h
    obtain ⟨h1, h2⟩ := h
    simp only [stepOk, Bool.and_eq_true, decide_eq_true_eq] at h1
    obtain ⟨i1, i2⟩ := blkOk_all h2
    refine ⟨fun x hx => ?_, fun j k x y hjk hx hy => ?_⟩
    · rcases List.mem_cons.1 hx with rfl | hx
      · omega
      · have := i1 x hx; omega
    · cases k with
      | zero => omega
      | succ k =>
        have hy' : bs[k]? = some y := by simpa using hy
        cases j with
        | zero =>
          have hx' : b = x := by simpa using hx
          subst hx'
          exact (i1 y (List.mem_of_getElem? hy')).1
        | succ j => exact i2 j k x y (by omega) (by simpa using hx) hy'
structure MemF (s : ByteArray) (bs : List Block) : Prop where
  size : s.size ≤ 4096
  fits : Fits bs
  len : bs.length ≤ 4096
  all_ : ∀ x ∈ bs, 8 ≤ x.at_ ∧ 0 < x.size ∧ x.at_ + x.size ≤ s.size
  ord : ∀ (j k : Nat) (x y : Block), j < k → bs[j]? = some x → bs[k]? = some y → x.at_ + x.size < y.at_
theorem memF {s : ByteArray} {bs : List Block} (h : memOk s bs = true) : MemF s bs := by
  rw [memOk, Bool.and_eq_true, decide_eq_true_eq] at h
  obtain ⟨h1, h2⟩ := h
  obtain ⟨a1, a2⟩ := blkOk_all h2
  have hl : bs.length ≤ 4096 := by
    rcases blkOk_len h2 with rfl | h3
    · simp
    · omega
  exact ⟨h1, ⟨hl, fun x hx => by have := a1 x hx; omega⟩, hl, fun x hx => by have := a1 x hx; omega, a2⟩
theorem put_give {fs : List Block} {b : Block} {k : Nat} (hk : FirstAt fs b.at_ k) (hord : ∀ (j k : Nat) (x y : Block), j < k → fs[j]? = some x → fs[k]? = some y → x.at_ + x.size < y.at_) (hend : ∀ x ∈ fs, x.at_ + x.size ≤ b.at_ ∧ 0 < x.size) : putAt fs k b = giveL fs b := by
  obtain ⟨h1, h2, h3⟩ := hk
  have hkl : k = fs.length := by
    rcases Nat.lt_or_ge k fs.length with h | h
    · have := h3 _ (List.getElem?_eq_getElem h)
      have := hend _ (List.getElem_mem h)
      omega
    · omega
  subst hkl
  have hn : fs[fs.length]? = none := by simp
  cases hf : fs.length with
  | zero =>
    have : fs = [] := List.eq_nil_of_length_eq_zero hf
    subst this
    rfl
  | succ m =>
    have hm : m < fs.length := by omega
    obtain ⟨x, hx⟩ : ∃ x, fs[m]? = some x := ⟨_, List.getElem?_eq_getElem hm⟩
    have hxm : x ∈ fs := List.mem_of_getElem? hx
    have hxe := hend x hxm
    have hn' : fs[m + 1]? = none := by rw [← hf]; exact hn
    have hd : fs.drop (m + 1) = [] := List.drop_of_length_le (by omega)
    by_cases he : x.at_ + x.size = b.at_
    · have e1 : putB1 fs (m + 1) b = (m, ⟨x.at_, x.size + b.size⟩) := by
        rw [putB1, if_neg (by omega), Nat.add_sub_cancel, hx]; exact if_pos he
      have e2 : putB2 fs (m + 1) ⟨x.at_, x.size + b.size⟩ = (⟨x.at_, x.size + b.size⟩, m + 1) := by rw [putB2, hn']
      rw [putAt, e1]
      simp only [e2]
      rw [giveL_at m (by omega) (fun j y hj hy => by have := hord j m y x hj hy hx; omega) (fun y hy => by rw [hx] at hy; cases hy; omega), drop_cons hx, hd]
      simp [giveM, he, giveN]
    · have e1 : putB1 fs (m + 1) b = (m + 1, b) := by
        rw [putB1, if_neg (by omega), Nat.add_sub_cancel, hx]; exact if_neg he
      have e2 : putB2 fs (m + 1) b = (b, m + 1) := by rw [putB2, hn']
      rw [putAt, e1]
      simp only [e2]
      rw [giveL_at (m + 1) (by omega) (fun j y hj hy => by
        rcases Nat.lt_succ_iff_lt_or_eq.1 hj with h | rfl
        · have := hord j m y x h hy hx; omega
        · rw [hx] at hy; cases hy; omega) (fun y hy => by rw [hn'] at hy; cases hy), hd]
      simp [giveM]
def growL (bs : List Block) (n m : Nat) : List Block := if max n 8 < n + m then giveL bs ⟨(max n 8 : Nat), ((n + m - max n 8 : Nat) : Int)⟩ else bs
def memGrow (m : Memory) (n : Int) : Memory × Int :=
  if memOk m.bytes m.free = true then (if n < 0 then (⟨⟨#[]⟩, []⟩, 2) else if 4096 - (m.bytes.size : Int) < n then (⟨⟨#[]⟩, []⟩, 4) else (⟨m.bytes ++ zerosB n.toNat, growL m.free m.bytes.size n.toNat⟩, 0)) else (⟨⟨#[]⟩, []⟩, 1)
theorem giveL_len : ∀ (l : List Block) (b : Block), (giveL l b).length ≤ l.length + 1
  | [], b => by simp [giveL]
  | x :: r, b => by
    rw [giveL]
    split
    · have := giveL_len r b; simpa using this
    · rw [giveM]
      split
      · cases r with
        | nil => simp [giveN]
        | cons y r => rw [giveN]; split <;> simp
      · rw [giveN]; split <;> simp
theorem blk_cnt (l : List Block) : PD.cntL (l.flatMap Block.pd) = 2 * l.length := by
  induction l with
  | nil => rfl
  | cons t l ih => rw [List.flatMap_cons, cntL_append, ih, List.length_cons]; simp only [Block.pd, PD.cntL, PD.cnt]; omega
theorem memGrow_cnt (m : Memory) (n : Int) : rowsCnt (Memory.pd (memGrow m n).1) ≤ 1099511627775 := by
  have h2 : ∀ (b : ByteArray) (l : List Block), l.length ≤ 4097 → rowsCnt (Memory.pd ⟨b, l⟩) ≤ 1099511627775 := fun b l hl => by
    have := blk_cnt l
    rw [Memory.pd_mk]; simp [rowsCnt, PD.cnt, PD.cntL]; omega
  rw [memGrow]
  split
  · rename_i hm
    have hl := (memF hm).len
    split
    · exact h2 _ _ (by simp)
    · split
      · exact h2 _ _ (by simp)
      · refine h2 _ _ ?_
        rw [growL]
        split
        · have := giveL_len m.free ⟨(max m.bytes.size 8 : Nat), ((m.bytes.size + n.toNat - max m.bytes.size 8 : Nat) : Int)⟩
          omega
        · omega
  · exact h2 _ _ (by simp)
end Go.Proofs.Ytlppngpafjfjeaa

