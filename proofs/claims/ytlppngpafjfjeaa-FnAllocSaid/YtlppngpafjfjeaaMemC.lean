/-
  Plain law of the free blocks: what they cover settles them; what alloc and give do to it (for FnAlloc, FnFree).
-/
import Derived.Test.YtlppngpafjfjeaaAllZ
namespace Go.Proofs.Ytlppngpafjfjeaa
open Go.RowKit
set_option linter.unusedVariables false
set_option linter.unusedSimpArgs false
set_option linter.unnecessarySimpa false

def inB_ (b : Block) (p : Int) : Prop := b.at_ ≤ p ∧ p < b.at_ + b.size
def cov (fs : List Block) (p : Int) : Prop := ∃ b ∈ fs, inB_ b p
theorem cov_nil (p : Int) : ¬ cov [] p := fun ⟨b, h, _⟩ => by simp at h
theorem cov_cons (b : Block) (fs : List Block) (p : Int) : cov (b :: fs) p ↔ inB_ b p ∨ cov fs p := by simp [cov]
theorem cov_append (a b : List Block) (p : Int) : cov (a ++ b) p ↔ cov a p ∨ cov b p := by
  induction a with
  | nil => simp [cov_nil]
  | cons x a ih => rw [List.cons_append, cov_cons, cov_cons, ih]; simp [or_assoc]
def Ok (n last : Int) (fs : List Block) : Prop := blkOk n last fs = true
theorem ok_nil (n last : Int) : Ok n last [] := rfl
theorem ok_cons {n last : Int} {b : Block} {fs : List Block} : Ok n last (b :: fs) ↔ (0 < b.size ∧ last < b.at_ ∧ b.at_ + b.size ≤ n) ∧ Ok n (b.at_ + b.size) fs := by
  show blkOk n last (b :: fs) = true ↔ _ ∧ blkOk n (b.at_ + b.size) fs = true
  rw [blkOk, Bool.and_eq_true]
  simp only [stepOk, Bool.and_eq_true, decide_eq_true_eq]
  constructor
  · rintro ⟨h, h2⟩; exact ⟨by omega, h2⟩
  · rintro ⟨h, h2⟩; exact ⟨by omega, h2⟩
theorem ok_down {n l l' : Int} {fs : List Block} (h : Ok n l fs) (hl : l' ≤ l) : Ok n l' fs := by
  cases fs with
  | nil => rfl
  | cons b fs => rw [ok_cons] at h ⊢; exact ⟨by omega, h.2⟩
theorem ok_cov : ∀ {fs : List Block} {n last : Int} {p : Int}, Ok n last fs → cov fs p → last < p ∧ p < n
  | [], n, last, p, _, hc => absurd hc (cov_nil p)
  | b :: fs, n, last, p, h, hc => by
    rw [ok_cons] at h
    rcases (cov_cons b fs p).1 hc with h1 | h1
    · unfold inB_ at h1; omega
    · have := ok_cov h.2 h1; omega
theorem ok_unique : ∀ {fs gs : List Block} {n last : Int}, Ok n last fs → Ok n last gs → (∀ p, cov fs p ↔ cov gs p) → fs = gs
  | [], [], n, last, _, _, _ => rfl
  | [], c :: gs, n, last, _, hg, he => by
    rw [ok_cons] at hg
    exact absurd ((he c.at_).2 ((cov_cons c gs _).2 (.inl (by unfold inB_; omega)))) (cov_nil _)
  | b :: fs, [], n, last, hf, _, he => by
    rw [ok_cons] at hf
    exact absurd ((he b.at_).1 ((cov_cons b fs _).2 (.inl (by unfold inB_; omega)))) (cov_nil _)
  | b :: fs, c :: gs, n, last, hf, hg, he => by
    rw [ok_cons] at hf hg
    obtain ⟨⟨f1, f2, f3⟩, hf⟩ := hf
    obtain ⟨⟨g1, g2, g3⟩, hg⟩ := hg
    have lowF : ∀ p, cov (b :: fs) p → b.at_ ≤ p := fun p h => by
      rcases (cov_cons b fs p).1 h with h1 | h1
      · exact h1.1
      · have := ok_cov hf h1; omega
    have lowG : ∀ p, cov (c :: gs) p → c.at_ ≤ p := fun p h => by
      rcases (cov_cons c gs p).1 h with h1 | h1
      · exact h1.1
      · have := ok_cov hg h1; omega
    have ea : b.at_ = c.at_ := by
      have h1 := lowG b.at_ ((he _).1 ((cov_cons b fs _).2 (.inl (by unfold inB_; omega))))
      have h2 := lowF c.at_ ((he _).2 ((cov_cons c gs _).2 (.inl (by unfold inB_; omega))))
      omega
    have endF : ¬ cov (b :: fs) (b.at_ + b.size) := fun h => by
      rcases (cov_cons b fs _).1 h with h1 | h1
      · unfold inB_ at h1; omega
      · have := ok_cov hf h1; omega
    have endG : ¬ cov (c :: gs) (c.at_ + c.size) := fun h => by
      rcases (cov_cons c gs _).1 h with h1 | h1
      · unfold inB_ at h1; omega
      · have := ok_cov hg h1; omega
    have ez : b.size = c.size := by
      rcases Int.lt_trichotomy b.size c.size with h | h | h
      · exact absurd ((he _).2 ((cov_cons c gs _).2 (.inl (by unfold inB_; omega)))) endF
      · exact h
      · exact absurd ((he _).1 ((cov_cons b fs _).2 (.inl (by unfold inB_; omega)))) endG
    have eb : b = c := by cases b; cases c; simp at ea ez; simp [ea, ez]
    subst eb
    rw [ok_unique hf hg fun p => ?_]
    constructor
    · intro h
      have h1 := ok_cov hf h
      rcases (cov_cons b gs p).1 ((he p).1 ((cov_cons b fs p).2 (.inr h))) with h2 | h2
      · unfold inB_ at h2; omega
      · exact h2
    · intro h
      have h1 := ok_cov hg h
      rcases (cov_cons b fs p).1 ((he p).2 ((cov_cons b gs p).2 (.inr h))) with h2 | h2
      · unfold inB_ at h2; omega
      · exact h2
/-- apart: nothing of b is covered by the blocks -/
def apart (fs : List Block) (b : Block) : Prop := ∀ x ∈ fs, x.at_ + x.size ≤ b.at_ ∨ b.at_ + b.size ≤ x.at_
theorem giveN_ok {r : List Block} {n last : Int} {b : Block} (h : Ok n last r) (hb : 0 < b.size ∧ b.at_ + b.size ≤ n) (hlb : ∀ x ∈ r, b.at_ + b.size ≤ x.at_) {l2 : Int} (h2 : l2 < b.at_) :
    Ok n l2 (giveN r b) ∧ ∀ p, cov (giveN r b) p ↔ inB_ b p ∨ cov r p := by
  cases r with
  | nil =>
    refine ⟨?_, fun p => by rw [giveN, cov_cons]⟩
    rw [giveN, ok_cons]; exact ⟨by omega, rfl⟩
  | cons y r =>
    rw [ok_cons] at h
    have hy := hlb y (by simp)
    rw [giveN]
    split
    · rename_i he
      refine ⟨?_, fun p => ?_⟩
      · rw [ok_cons]
        refine ⟨by show 0 < b.size + y.size ∧ l2 < b.at_ ∧ b.at_ + (b.size + y.size) ≤ n; omega, ?_⟩
        have : y.at_ + y.size = b.at_ + (b.size + y.size) := by omega
        rw [this] at h
        exact h.2
      · rw [cov_cons, cov_cons]
        have : inB_ ⟨b.at_, b.size + y.size⟩ p ↔ inB_ b p ∨ inB_ y p := by unfold inB_; simp only; omega
        rw [this, or_assoc]
    · rename_i he
      refine ⟨?_, fun p => by rw [cov_cons]⟩
      rw [ok_cons, ok_cons]
      exact ⟨by omega, by omega, h.2⟩
theorem giveL_ok : ∀ {fs : List Block} {n last : Int} {b : Block}, Ok n last fs → 0 < b.size → last < b.at_ → b.at_ + b.size ≤ n → apart fs b → Ok n last (giveL fs b) ∧ ∀ p, cov (giveL fs b) p ↔ inB_ b p ∨ cov fs p
  | [], n, last, b, h, h1, h2, h3, _ => by
    refine ⟨?_, fun p => by rw [giveL, cov_cons]⟩
    rw [giveL, ok_cons]; exact ⟨by omega, rfl⟩
  | x :: r, n, last, b, h, h1, h2, h3, ha => by
    rw [ok_cons] at h
    have hx := ha x (by simp)
    rw [giveL]
    split
    · rename_i hlt
      obtain ⟨i1, i2⟩ := giveL_ok h.2 h1 hlt h3 fun y hy => ha y (by simp [hy])
      refine ⟨ok_cons.2 ⟨by omega, i1⟩, fun p => ?_⟩
      rw [cov_cons, i2, cov_cons]
      constructor
      · rintro (h | h | h)
        · exact .inr (.inl h)
        · exact .inl h
        · exact .inr (.inr h)
      · rintro (h | h | h)
        · exact .inr (.inl h)
        · exact .inl h
        · exact .inr (.inr h)
    · rename_i hge
      rw [giveM]
      split
      · rename_i he
        have hup : ∀ y ∈ r, b.at_ + b.size ≤ y.at_ := fun y hy => by
          have h4 := ha y (by simp [hy])
          by_cases h0 : 0 < y.size
          · have := ok_cov h.2 (p := y.at_) ⟨y, hy, by unfold inB_; omega⟩
            omega
          · exfalso
            have hp : ∀ {l : Int} {r : List Block}, Ok n l r → y ∈ r → 0 < y.size := by
              intro l r
              induction r generalizing l with
              | nil => intro _ h; simp at h
              | cons z r ih =>
                intro h hm
                rw [ok_cons] at h
                rcases List.mem_cons.1 hm with rfl | hm
                · exact h.1.1
                · exact ih h.2 hm
            have := hp h.2 hy
            omega
        obtain ⟨i1, i2⟩ := giveN_ok (b := ⟨x.at_, x.size + b.size⟩) h.2 (by show 0 < x.size + b.size ∧ x.at_ + (x.size + b.size) ≤ n; omega) (fun y hy => by have := hup y hy; show x.at_ + (x.size + b.size) ≤ y.at_; omega) (l2 := last) (by show last < x.at_; omega)
        refine ⟨i1, fun p => ?_⟩
        rw [i2, cov_cons]
        have : inB_ ⟨x.at_, x.size + b.size⟩ p ↔ inB_ b p ∨ inB_ x p := by unfold inB_; simp only; omega
        rw [this, or_assoc]
      · rename_i hne
        have hbx : b.at_ + b.size ≤ x.at_ := by omega
        have hup : ∀ y ∈ x :: r, b.at_ + b.size ≤ y.at_ := fun y hy => by
          rcases List.mem_cons.1 hy with rfl | hy
          · exact hbx
          · have hp : ∀ {l : Int} {r : List Block}, Ok n l r → y ∈ r → l < y.at_ := by
              intro l r
              induction r generalizing l with
              | nil => intro _ h; simp at h
              | cons z r ih =>
                intro h hm
                rw [ok_cons] at h
                rcases List.mem_cons.1 hm with rfl | hm
                · exact h.1.2.1
                · have := ih h.2 hm; omega
            have := hp h.2 hy
            omega
        exact giveN_ok (b := b) (ok_cons.2 ⟨h.1, h.2⟩) ⟨h1, h3⟩ hup h2
theorem allocR_ok : ∀ {fs : List Block} {n last z : Int} {a : Nat} {l : List Block} {t : Int}, Ok n last fs → 0 ≤ last → 0 < z → 1 ≤ a → allocR fs z a = some (l, t) →
    Ok n last l ∧ (∀ p, cov l p ↔ cov fs p ∧ ¬ inB_ ⟨t, z⟩ p) ∧ (∀ p, inB_ ⟨t, z⟩ p → cov fs p) ∧ last < t ∧ t + z ≤ n ∧ t % (a : Int) = 0
  | [], n, last, z, a, l, t, _, _, _, _, h => by simp [allocR] at h
  | b :: r, n, last, z, a, l, t, hok, h0, hz, ha, h => by
    rw [ok_cons] at hok
    rw [allocR] at h
    split at h
    · rename_i hf
      injection h with h
      injection h with e1 e2
      rw [fitsB_iff] at hf
      have hp := plc_bd (a := a) (b := b) ha (by omega)
      have hmod : plc a b % (a : Int) = 0 := by
        unfold plc
        have := up_mod b.at_.toNat a
        exact_mod_cast this
      rw [e2] at hf hp hmod e1
      have hA : ∀ p, cov (cutA b t) p ↔ b.at_ ≤ p ∧ p < t := fun p => by
        rw [cutA]
        split
        · rw [cov_cons]
          simp only [inB_, cov_nil, or_false]
          omega
        · simp only [cov_nil, false_iff]; omega
      have hZ : ∀ p, cov (cutZ b t z) p ↔ t + z ≤ p ∧ p < b.at_ + b.size := fun p => by
        rw [cutZ]
        split
        · rw [cov_cons]
          simp only [inB_, cov_nil, or_false]
          omega
        · simp only [cov_nil, false_iff]; omega
      subst e1
      refine ⟨?_, fun p => ?_, fun p hpp => ?_, by omega, by omega, hmod⟩
      · have hR : Ok n (b.at_ + b.size) r := hok.2
        have hZR : ∀ l2, l2 < t + z → Ok n l2 (cutZ b t z ++ r) := fun l2 hl => by
          rw [cutZ]
          split
          · rw [List.cons_append, List.nil_append, ok_cons]
            refine ⟨by show 0 < b.at_ + b.size - (t + z) ∧ l2 < t + z ∧ t + z + (b.at_ + b.size - (t + z)) ≤ n; omega, ?_⟩
            have : t + z + (b.at_ + b.size - (t + z)) = b.at_ + b.size := by omega
            show Ok n (t + z + (b.at_ + b.size - (t + z))) r
            rw [this]; exact hR
          · rw [List.nil_append]; exact ok_down hR (by omega)
        rw [List.append_assoc, cutA]
        split
        · rw [List.cons_append, List.nil_append, ok_cons]
          refine ⟨by show 0 < t - b.at_ ∧ last < b.at_ ∧ b.at_ + (t - b.at_) ≤ n; omega, ?_⟩
          exact hZR _ (by show b.at_ + (t - b.at_) < t + z; omega)
        · rw [List.nil_append]; exact hZR _ (by omega)
      · rw [cov_append, cov_append, hA, hZ, cov_cons]
        have hr : cov r p → ¬ inB_ ⟨t, z⟩ p := fun h => by
          have := ok_cov hok.2 h
          unfold inB_; simp only; omega
        constructor
        · rintro ((h | h) | h)
          · exact ⟨.inl (by unfold inB_; omega), by unfold inB_; simp only; omega⟩
          · exact ⟨.inl (by unfold inB_; omega), by unfold inB_; simp only; omega⟩
          · exact ⟨.inr h, hr h⟩
        · rintro ⟨h | h, h2⟩
          · unfold inB_ at h h2; simp only at h2; omega
          · exact .inr h
      · rw [cov_cons]; left; unfold inB_ at hpp ⊢; simp only at hpp; omega
    · cases hr : allocR r z a with
      | none => rw [hr] at h; cases h
      | some x =>
        obtain ⟨l2, t2⟩ := x
        rw [hr] at h
        injection h with h
        injection h with e1 e2
        simp only at e1 e2
        subst e1 e2
        obtain ⟨i1, i2, i3, i4, i5, i6⟩ := allocR_ok hok.2 (by omega) hz ha hr
        refine ⟨ok_cons.2 ⟨hok.1, i1⟩, fun p => ?_, fun p hp => (cov_cons _ _ _).2 (.inr (i3 p hp)), by omega, i5, i6⟩
        rw [cov_cons, i2, cov_cons]
        constructor
        · rintro (h | ⟨h, h2⟩)
          · exact ⟨.inl h, by unfold inB_ at h ⊢; simp only; omega⟩
          · exact ⟨.inr h, h2⟩
        · rintro ⟨h | h, h2⟩
          · exact .inl h
          · exact .inr ⟨h, h2⟩
def sumZ (fs : List Block) : Int := (fs.map (·.size)).sum
theorem sumZ_cons (b : Block) (fs : List Block) : sumZ (b :: fs) = b.size + sumZ fs := by simp [sumZ]
theorem sumZ_append (a b : List Block) : sumZ (a ++ b) = sumZ a + sumZ b := by simp [sumZ]
theorem allocR_sum : ∀ {fs : List Block} {n last z : Int} {a : Nat} {l : List Block} {t : Int}, Ok n last fs → 0 ≤ last → 0 < z → 1 ≤ a → allocR fs z a = some (l, t) → sumZ l = sumZ fs - z
  | [], n, last, z, a, l, t, _, _, _, _, h => by simp [allocR] at h
  | b :: r, n, last, z, a, l, t, hok, h0, hz, ha, h => by
    rw [ok_cons] at hok
    rw [allocR] at h
    split at h
    · rename_i hf
      injection h with h
      injection h with e1 e2
      rw [fitsB_iff] at hf
      have hp := plc_bd (a := a) (b := b) ha (by omega)
      rw [e2] at hf hp e1
      have hA : sumZ (cutA b t) = t - b.at_ := by
        rw [cutA]; split
        · simp [sumZ]
        · simp [sumZ]; omega
      have hZ : sumZ (cutZ b t z) = b.at_ + b.size - (t + z) := by
        rw [cutZ]; split
        · simp [sumZ]
        · simp [sumZ]; omega
      subst e1
      rw [sumZ_append, sumZ_append, hA, hZ, sumZ_cons]
      omega
    · cases hr : allocR r z a with
      | none => rw [hr] at h; cases h
      | some x =>
        obtain ⟨l2, t2⟩ := x
        rw [hr] at h
        injection h with h
        injection h with e1 e2
        simp only at e1 e2
        subst e1 e2
        have := allocR_sum hok.2 (by omega) hz ha hr
        rw [sumZ_cons, sumZ_cons]
        omega
theorem memOk_iff (s : ByteArray) (bs : List Block) : memOk s bs = true ↔ s.size ≤ 4096 ∧ Ok s.size 7 bs := by
  rw [memOk, Bool.and_eq_true, decide_eq_true_eq]; rfl
/-- what a block that alloc took gives back, and that it is not free ahead of that -/
theorem alloc_give {fs l : List Block} {n last z t : Int} {a : Nat} (hok : Ok n last fs) (h0 : 0 ≤ last) (hz : 0 < z) (ha : 1 ≤ a) (h : allocR fs z a = some (l, t)) : apart l ⟨t, z⟩ ∧ giveL l ⟨t, z⟩ = fs := by
  obtain ⟨i1, i2, i3, i4, i5, i6⟩ := allocR_ok hok h0 hz ha h
  have hap : apart l ⟨t, z⟩ := fun x hx => by
    show x.at_ + x.size ≤ t ∨ t + z ≤ x.at_
    rcases Int.lt_or_le 0 x.size with hs | hs
    · rcases Int.lt_or_le t (x.at_ + x.size) with h1 | h1
      · right
        rcases Int.lt_or_le x.at_ (t + z) with h2 | h2
        · exfalso
          have : ∃ p, inB_ x p ∧ inB_ ⟨t, z⟩ p := by
            rcases Int.lt_or_le t x.at_ with h3 | h3
            · exact ⟨x.at_, by unfold inB_; omega, by unfold inB_; simp only; omega⟩
            · exact ⟨t, by unfold inB_; omega, by unfold inB_; simp only; omega⟩
          obtain ⟨p, h3, h4⟩ := this
          exact ((i2 p).1 ⟨x, hx, h3⟩).2 h4
        · exact h2
      · exact .inl h1
    · exfalso
      have hp : ∀ {l2 : Int} {r : List Block}, Ok n l2 r → x ∈ r → 0 < x.size := by
        intro l2 r
        induction r generalizing l2 with
        | nil => intro _ h; simp at h
        | cons z r ih =>
          intro h hm
          rw [ok_cons] at h
          rcases List.mem_cons.1 hm with rfl | hm
          · exact h.1.1
          · exact ih h.2 hm
      have := hp i1 hx
      omega
  refine ⟨hap, ?_⟩
  obtain ⟨j1, j2⟩ := giveL_ok i1 (b := ⟨t, z⟩) hz i4 i5 hap
  refine ok_unique j1 hok fun p => ?_
  rw [j2, i2]
  constructor
  · rintro (h | h)
    · exact i3 p h
    · exact h.1
  · intro h
    by_cases h2 : inB_ ⟨t, z⟩ p
    · exact .inl h2
    · exact .inr ⟨h, h2⟩
end Go.Proofs.Ytlppngpafjfjeaa

