/-
  FnFree: the plain law: the free blocks and the taken ones part the memory.
-/
import Derived.Test.YtlppngpafjfjeaaMemC
import Derived.Test.YtlppngpafjfjeaaNewMem
namespace Go.Proofs.Ytlppngpafjfjeaa
open Go.RowKit
set_option linter.unusedVariables false
set_option linter.unusedSimpArgs false
set_option linter.unnecessarySimpa false

def offB (a b : Block) : Prop := ∀ p, ¬ (inB_ a p ∧ inB_ b p)
theorem offB_iff {a b : Block} (ha : 0 < a.size) (hb : 0 < b.size) : offB a b ↔ (a.at_ + a.size ≤ b.at_ ∨ b.at_ + b.size ≤ a.at_) := by
  constructor
  · intro h
    rcases Int.lt_or_le b.at_ (a.at_ + a.size) with h1 | h1
    · right
      rcases Int.lt_or_le a.at_ (b.at_ + b.size) with h2 | h2
      · exfalso
        rcases Int.lt_or_le a.at_ b.at_ with h3 | h3
        · exact h b.at_ ⟨by unfold inB_; omega, by unfold inB_; omega⟩
        · exact h a.at_ ⟨by unfold inB_; omega, by unfold inB_; omega⟩
      · exact h2
    · exact .inl h1
  · intro h p hp
    unfold inB_ at hp
    omega
theorem ok_pos {n : Int} : ∀ {fs : List Block} {last : Int}, Ok n last fs → ∀ x ∈ fs, 0 < x.size
  | [], _, _, x, hx => by simp at hx
  | y :: fs, last, h, x, hx => by
    rw [ok_cons] at h
    rcases List.mem_cons.1 hx with rfl | hx
    · exact h.1.1
    · exact ok_pos h.2 x hx
structure FInv (N : Nat) (s : ByteArray) (fs taken : List Block) : Prop where
  size : s.size = N
  le : N ≤ 4096
  ok : Ok N 7 fs
  pos : ∀ b ∈ taken, 0 < b.size
  cover : ∀ p : Int, (8 ≤ p ∧ p < N) ↔ (cov fs p ∨ cov taken p)
  sep : ∀ p, cov fs p → ¬ cov taken p
  pw : taken.Pairwise offB
theorem FInv.memOk {N : Nat} {s : ByteArray} {fs taken : List Block} (h : FInv N s fs taken) : memOk s fs = true := by
  rw [memOk_iff, h.size]; exact ⟨h.le, h.ok⟩
theorem FInv.mem {N : Nat} {s : ByteArray} {fs taken : List Block} (h : FInv N s fs taken) {b : Block} (hb : b ∈ taken) : 8 ≤ b.at_ ∧ b.at_ + b.size ≤ N := by
  have hp := h.pos b hb
  have h1 := (h.cover b.at_).2 (.inr ⟨b, hb, by unfold inB_; omega⟩)
  have h2 := (h.cover (b.at_ + b.size - 1)).2 (.inr ⟨b, hb, by unfold inB_; omega⟩)
  omega
theorem FInv.off {N : Nat} {s : ByteArray} {fs taken : List Block} (h : FInv N s fs taken) {b x : Block} (hb : b ∈ taken) (hx : x ∈ fs) : x.at_ + x.size ≤ b.at_ ∨ b.at_ + b.size ≤ x.at_ :=
  (offB_iff (ok_pos h.ok x hx) (h.pos b hb)).1 fun p hp => h.sep p ⟨x, hx, hp.1⟩ ⟨b, hb, hp.2⟩
theorem take_split {α : Type} {l : List α} {k : Nat} {b : α} (h : l[k]? = some b) : l = l.take k ++ b :: l.drop (k + 1) := by
  obtain ⟨hk, he⟩ := List.getElem?_eq_some_iff.1 h
  rw [← he, ← List.drop_eq_getElem_cons hk, List.take_append_drop]
theorem FInv.rel {N : Nat} {s : ByteArray} {fs taken : List Block} {k : Nat} {b : Block} (h : FInv N s fs taken) (hk : taken[k]? = some b) :
    memRel ⟨s, fs⟩ b.at_ b.size = (⟨s, giveL fs b⟩, 0) ∧ FInv N s (giveL fs b) (taken.take k ++ taken.drop (k + 1)) := by
  have hb : b ∈ taken := List.mem_of_getElem? hk
  have hp := h.pos b hb
  have hm := h.mem hb
  have hap : apart fs b := fun x hx => h.off hb hx
  have hs := h.size
  obtain ⟨g1, g2⟩ := giveL_ok h.ok hp (by omega) hm.2 hap
  refine ⟨?_, ?_⟩
  · have hfree : freeAt fs b.at_ b.size = false := by
      rw [freeAt, List.any_eq_false]
      intro x hx
      have := hap x hx
      simp only [Bool.and_eq_true, decide_eq_true_eq, not_and, Int.not_lt]
      omega
    exact rel_yes h.memOk (by omega) ⟨by omega, by omega, by omega, by omega, hfree⟩
  · have hsp := take_split hk
    have hc : ∀ p, cov taken p ↔ inB_ b p ∨ cov (taken.take k ++ taken.drop (k + 1)) p := fun p => by
      conv => lhs; rw [hsp]
      rw [cov_append, cov_cons, cov_append]
      constructor
      · rintro (h | h | h)
        · exact .inr (.inl h)
        · exact .inl h
        · exact .inr (.inr h)
      · rintro (h | h | h)
        · exact .inr (.inl h)
        · exact .inl h
        · exact .inr (.inr h)
    have hpw := h.pw
    rw [hsp, List.pairwise_append, List.pairwise_cons] at hpw
    obtain ⟨w1, ⟨w2, w3⟩, w4⟩ := hpw
    refine ⟨h.size, h.le, g1, fun x hx => h.pos x ?_, fun p => ?_, fun p hp2 => ?_, ?_⟩
    · rw [hsp]
      rcases List.mem_append.1 hx with h1 | h1
      · exact List.mem_append_left _ h1
      · exact List.mem_append_right _ (List.mem_cons_of_mem _ h1)
    · rw [h.cover, g2, hc]
      constructor
      · rintro (h | h | h)
        · exact .inl (.inr h)
        · exact .inl (.inl h)
        · exact .inr h
      · rintro ((h | h) | h)
        · exact .inr (.inl h)
        · exact .inl h
        · exact .inr (.inr h)
    · rw [g2] at hp2
      rintro ⟨x, hx, hxp⟩
      rcases hp2 with h1 | h1
      · rcases List.mem_append.1 hx with h3 | h3
        · exact w4 x h3 b (by simp) p ⟨hxp, h1⟩
        · exact w2 x h3 p ⟨h1, hxp⟩
      · exact h.sep p h1 ((hc p).2 (.inr ⟨x, hx, hxp⟩))
    · rw [List.pairwise_append]
      exact ⟨w1, w3, fun x hx y hy => w4 x hx y (List.mem_cons_of_mem _ hy)⟩
theorem FInv.alloc {N : Nat} {s : ByteArray} {fs taken l : List Block} {z t : Int} {a : Nat} (h : FInv N s fs taken) (hz : 0 < z) (ha : 1 ≤ a) (hr : allocR fs z a = some (l, t)) :
    FInv N s l (taken ++ [⟨t, z⟩]) ∧ ∀ b ∈ taken, b.at_ + b.size ≤ t ∨ t + z ≤ b.at_ := by
  obtain ⟨i1, i2, i3, i4, i5, i6⟩ := allocR_ok h.ok (by omega) hz ha hr
  have hoff : ∀ b ∈ taken, offB b ⟨t, z⟩ := fun b hb p hp => h.sep p (i3 p hp.2) ⟨b, hb, hp.1⟩
  refine ⟨⟨h.size, h.le, i1, fun b hb => ?_, fun p => ?_, fun p hp => ?_, ?_⟩, fun b hb => (offB_iff (h.pos b hb) hz).1 (hoff b hb)⟩
  · rcases List.mem_append.1 hb with h1 | h1
    · exact h.pos b h1
    · rw [List.mem_singleton] at h1; subst h1; exact hz
  · rw [h.cover, i2, cov_append, cov_cons]
    constructor
    · rintro (h1 | h1)
      · by_cases h2 : inB_ ⟨t, z⟩ p
        · exact .inr (.inr (.inl h2))
        · exact .inl ⟨h1, h2⟩
      · exact .inr (.inl h1)
    · rintro (h1 | h1 | h1 | h1)
      · exact .inl h1.1
      · exact .inr h1
      · exact .inl (i3 p h1)
      · exact absurd h1 (cov_nil p)
  · rw [i2] at hp
    rw [cov_append, cov_cons]
    rintro (h1 | h1 | h1)
    · exact h.sep p hp.1 h1
    · exact hp.2 h1
    · exact cov_nil p h1
  · rw [List.pairwise_append]
    refine ⟨h.pw, by simp, fun x hx y hy => ?_⟩
    rw [List.mem_singleton] at hy; subst hy; exact hoff x hx
theorem freeN_ok (N : Nat) : Ok N 7 (freeN N) ∧ ∀ p, cov (freeN N) p ↔ (8 ≤ p ∧ p < (N : Int)) := by
  rw [freeN]
  split
  · refine ⟨?_, fun p => ?_⟩
    · rw [ok_cons]; exact ⟨by show 0 < (N : Int) - 8 ∧ (7 : Int) < 8 ∧ 8 + ((N : Int) - 8) ≤ N; omega, rfl⟩
    · rw [cov_cons]; unfold inB_; simp only [cov_nil, or_false]; omega
  · exact ⟨rfl, fun p => by simp only [cov_nil, false_iff]; omega⟩
theorem FInv.done {N : Nat} {s : ByteArray} {fs : List Block} (h : FInv N s fs []) : fs = freeN N := by
  obtain ⟨f1, f2⟩ := freeN_ok N
  exact ok_unique h.ok f1 fun p => by
    rw [f2, h.cover]
    constructor
    · exact .inl
    · rintro (h1 | h1)
      · exact h1
      · exact absurd h1 (cov_nil p)
theorem FInv.start {N : Nat} (h : N ≤ 4096) : FInv N (zerosB N) (freeN N) [] := by
  obtain ⟨f1, f2⟩ := freeN_ok N
  exact ⟨zerosB_size N, h, f1, fun b hb => by simp at hb, fun p => by rw [f2]; simp [cov_nil], fun p _ => cov_nil p, List.Pairwise.nil⟩
theorem FInv.len {N : Nat} {s : ByteArray} {fs taken : List Block} (h : FInv N s fs taken) : fs.length ≤ 4096 := (memF h.memOk).len
end Go.Proofs.Ytlppngpafjfjeaa

