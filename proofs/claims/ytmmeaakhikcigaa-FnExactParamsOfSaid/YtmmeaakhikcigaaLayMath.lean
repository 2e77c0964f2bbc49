/-
  Sizes, alignments and places of types, in plain Lean.
-/
import Derived.Test.YtmmeaakhikcigaaTyMath
import Derived.Test.YtmmeaakhikcigaaNum
namespace Go.Proofs.Ytmmeaakhikcigaa
open Go.RowKit
set_option linter.unusedVariables false
set_option linter.unusedSimpArgs false
set_option linter.unnecessarySimpa false

def up (x a : Nat) : Nat := (x + a - 1) / a * a
theorem up_le (x : Nat) {a : Nat} (h : 1 ≤ a) : up x a ≤ x + a - 1 := by
  unfold up
  exact Nat.div_mul_le_self _ _
theorem up_of_le {x a b : Nat} (h : 1 ≤ a) (hb : a ≤ b) : up x a + 1 ≤ x + b := by
  have := up_le x h
  omega
def numN (k : Int) : Nat := (numSz k).toNat
theorem numSz_nat (k : Int) : numSz k = (numN k : Int) := by
  unfold numN numSz
  split <;> try rfl
  split <;> try rfl
  split <;> try rfl
  split <;> rfl
theorem numN_cases (k : Int) : numN k = 0 ∨ numN k = 1 ∨ numN k = 2 ∨ numN k = 4 ∨ numN k = 8 := by
  unfold numN numSz
  split
  · exact .inr (.inl rfl)
  split
  · exact .inr (.inr (.inl rfl))
  split
  · exact .inr (.inr (.inr (.inl rfl)))
  split
  · exact .inr (.inr (.inr (.inr rfl)))
  · exact .inl rfl
def unitT : Ty := ⟨1, ByteArray.mk #[], [], []⟩
def Ty.cases : Ty → List Ty
  | .mk kind _ _ kids => if kind = 13 then unitT :: kids else if kind = 14 ∨ kind = 17 then kids else []
/-- size and alignment of a type from what its kids say: where they end, their greatest size, their greatest alignment -/
def lay1 (kind : Int) (nl : Nat) (e s a : Nat) : Nat × Nat :=
  if 0 < numN kind then (numN kind, numN kind)
  else if kind = 11 ∨ kind = 12 then (8, 4)
  else if kind = 18 then (1, 1)
  else if kind = 19 then (if 8 < nl then (2, 2) else (1, 1))
  else if kind = 15 ∨ kind = 16 then (up e a, a)
  else if kind = 13 ∨ kind = 14 ∨ kind = 17 then (up (up 1 a + s) a, a)
  else (0, 1)
mutual
def Ty.lay : Ty → Nat × Nat
  | .mk kind _ labels kids => lay1 kind labels.length (Ty.endL 0 kids) (Ty.mostL kids).1 (Ty.mostL kids).2
def Ty.mostL : List Ty → Nat × Nat
  | [] => (0, 1)
  | t :: r => (max (Ty.lay t).1 (Ty.mostL r).1, max (Ty.lay t).2 (Ty.mostL r).2)
def Ty.endL (e : Nat) : List Ty → Nat
  | [] => e
  | t :: r => Ty.endL (up e (Ty.lay t).2 + (Ty.lay t).1) r
end
def offsL (e : Nat) : List Ty → List Nat
  | [] => []
  | t :: r => up e t.lay.2 :: offsL (up e t.lay.2 + t.lay.1) r
theorem endL_append (e : Nat) : ∀ (xs ys : List Ty), Ty.endL e (xs ++ ys) = Ty.endL (Ty.endL e xs) ys
  | [], ys => by simp [Ty.endL]
  | x :: xs, ys => by rw [List.cons_append, Ty.endL, Ty.endL, endL_append _ xs ys]
theorem mostL_append : ∀ (xs ys : List Ty), Ty.mostL (xs ++ ys) = (max (Ty.mostL xs).1 (Ty.mostL ys).1, max (Ty.mostL xs).2 (Ty.mostL ys).2)
  | [], [] => by simp [Ty.mostL]
  | [], y :: ys => by
    rw [List.nil_append]
    have h : 1 ≤ (Ty.mostL (y :: ys)).2 := by
      have : ∀ zs : List Ty, 1 ≤ (Ty.mostL zs).2 := fun zs => by
        induction zs with
        | nil => simp [Ty.mostL]
        | cons z zs ih => rw [Ty.mostL]; exact Nat.le_trans ih (Nat.le_max_right _ _)
      exact this _
    rw [show Ty.mostL [] = (0, 1) by rw [Ty.mostL]]
    rw [Nat.max_eq_right (Nat.zero_le _), Nat.max_eq_right h]
  | x :: xs, ys => by rw [List.cons_append, Ty.mostL, Ty.mostL, mostL_append xs ys]; simp only [Nat.max_assoc]
theorem offsL_append (e : Nat) : ∀ (xs ys : List Ty), offsL e (xs ++ ys) = offsL e xs ++ offsL (Ty.endL e xs) ys
  | [], ys => by simp [offsL, Ty.endL]
  | x :: xs, ys => by rw [List.cons_append, offsL, offsL, Ty.endL, offsL_append _ xs ys, List.cons_append]
theorem offsL_length (e : Nat) : ∀ ts : List Ty, (offsL e ts).length = ts.length
  | [] => rfl
  | t :: r => by rw [offsL, List.length_cons, List.length_cons, offsL_length _ r]
theorem endL_succ {e : Nat} {ts : List Ty} {k : Nat} {t : Ty} (h : ts[k]? = some t) : Ty.endL e (ts.take (k + 1)) = up (Ty.endL e (ts.take k)) t.lay.2 + t.lay.1 := by
  rw [List.take_add_one, h, endL_append]
  simp [Ty.endL]
theorem offsL_succ {e : Nat} {ts : List Ty} {k : Nat} {t : Ty} (h : ts[k]? = some t) : offsL e (ts.take (k + 1)) = offsL e (ts.take k) ++ [up (Ty.endL e (ts.take k)) t.lay.2] := by
  rw [List.take_add_one, h, offsL_append]
  simp [offsL]
theorem mostL_pos : ∀ ts : List Ty, 1 ≤ (Ty.mostL ts).2
  | [] => by simp [Ty.mostL]
  | t :: r => by rw [Ty.mostL]; exact Nat.le_trans (mostL_pos r) (Nat.le_max_right _ _)
theorem most1_succ {ts : List Ty} {k : Nat} {t : Ty} (h : ts[k]? = some t) : (Ty.mostL (ts.take (k + 1))).1 = max (Ty.mostL (ts.take k)).1 t.lay.1 := by
  rw [List.take_add_one, h, mostL_append]
  simp [Ty.mostL]
theorem most2_succ {ts : List Ty} {k : Nat} {t : Ty} (h : ts[k]? = some t) : (Ty.mostL (ts.take (k + 1))).2 = max (Ty.mostL (ts.take k)).2 t.lay.2 := by
  rw [List.take_add_one, h, mostL_append]
  have h1 := mostL_pos (ts.take k)
  simp [Ty.mostL]
  omega
theorem lay1_two {kind : Int} {nl e s a : Nat} (h1 : 1 ≤ a) (h8 : a ≤ 8) : 1 ≤ (lay1 kind nl e s a).2 ∧ (lay1 kind nl e s a).2 ≤ 8 := by
  unfold lay1
  have hn := numN_cases kind
  by_cases hk : 0 < numN kind
  · rw [if_pos hk]; simp only; omega
  rw [if_neg hk]
  repeat (first | (split; · first | (simp; done) | (simp only; omega) | (split <;> simp)) | (simp; done))
theorem lay1_one {kind : Int} {nl e s a : Nat} (h1 : 1 ≤ a) (h8 : a ≤ 8) : (lay1 kind nl e s a).1 ≤ 8 + (e + 7) + (s + 7) := by
  unfold lay1
  have hn := numN_cases kind
  have u1 := up_of_le (x := e) h1 h8
  have u2 := up_of_le (x := 1) h1 h8
  have u3 := up_of_le (x := up 1 a + s) h1 h8
  by_cases hk : 0 < numN kind
  · rw [if_pos hk]; simp only; omega
  rw [if_neg hk]
  split
  · simp only; omega
  split
  · simp only; omega
  split
  · split <;> (simp only; omega)
  split
  · simp only; omega
  split
  · simp only; omega
  · simp only; omega
mutual
theorem lay_le : ∀ t : Ty, 1 ≤ t.lay.2 ∧ t.lay.2 ≤ 8 ∧ t.lay.1 + 8 ≤ 24 * t.parts
  | .mk kind name labels kids => by
    obtain ⟨m1, m2, m3, m4⟩ := mostL_le kids
    rw [Ty.lay, Ty.parts]
    have h := lay1_two (kind := kind) (nl := labels.length) (e := Ty.endL 0 kids) (s := (Ty.mostL kids).1) m1 m2
    refine ⟨h.1, h.2, ?_⟩
    have hn := numN_cases kind
    have u1 := up_of_le (x := Ty.endL 0 kids) m1 m2
    have u2 := up_of_le (x := 1) m1 m2
    have u3 := up_of_le (x := up 1 (Ty.mostL kids).2 + (Ty.mostL kids).1) m1 m2
    have m5 := m4 0
    unfold lay1
    by_cases hk : 0 < numN kind
    · rw [if_pos hk]; simp only; omega
    rw [if_neg hk]
    split
    · simp only; omega
    split
    · simp only; omega
    split
    · split <;> (simp only; omega)
    split
    · simp only; omega
    split
    · simp only; omega
    · simp only; omega
theorem mostL_le : ∀ ts : List Ty, 1 ≤ (Ty.mostL ts).2 ∧ (Ty.mostL ts).2 ≤ 8 ∧ (Ty.mostL ts).1 ≤ 24 * Ty.partsL ts ∧ ∀ e, Ty.endL e ts ≤ e + 24 * Ty.partsL ts
  | [] => by rw [Ty.mostL, Ty.partsL]; exact ⟨by simp, by simp, by simp, fun e => by rw [Ty.endL]; omega⟩
  | t :: r => by
    obtain ⟨a1, a2, a3⟩ := lay_le t
    obtain ⟨b1, b2, b3, b4⟩ := mostL_le r
    rw [Ty.mostL, Ty.partsL]
    refine ⟨by simp only; omega, by simp only; omega, by simp only; omega, fun e => ?_⟩
    rw [Ty.endL]
    have := b4 (up e t.lay.2 + t.lay.1)
    have := up_of_le (x := e) a1 a2
    omega
end
theorem endL_le (ts : List Ty) (k : Nat) : Ty.endL 0 (ts.take k) ≤ 24 * Ty.partsL ts := by
  have h1 := (mostL_le (ts.take k)).2.2.2 0
  have h2 := partsL_take_le ts k
  omega
theorem mostL_cases {kind : Int} {name : ByteArray} {labels : List ByteArray} {kids : List Ty} (h : kind = 13 ∨ kind = 14 ∨ kind = 17) : Ty.mostL (Ty.cases ⟨kind, name, labels, kids⟩) = Ty.mostL kids := by
  have hu : unitT.lay = (0, 1) := by
    rw [unitT, Ty.lay, lay1]
    simp [show numN 1 = 0 from rfl]
  have h1 := mostL_pos kids
  rw [Ty.cases]
  by_cases h13 : kind = 13
  · rw [if_pos h13, Ty.mostL, hu]
    simp only [Nat.zero_max, Nat.max_eq_right h1]
  · rw [if_neg h13, if_pos (by omega)]
theorem cases_parts {kind : Int} {name : ByteArray} {labels : List ByteArray} {kids : List Ty} : Ty.partsL (Ty.cases ⟨kind, name, labels, kids⟩) ≤ 1 + Ty.partsL kids := by
  rw [Ty.cases]
  split
  · rw [Ty.partsL, show unitT.parts = 1 by rw [unitT, Ty.parts, Ty.partsL]]
    omega
  split
  · omega
  · rw [Ty.partsL]; omega
theorem unit_shapes : unitT.shapes = true := by
  rw [unitT, Ty.shapes, Ty.shapesL, shape1]
  simp [named, inB, kidsRight]
  decide
/-- a right type's kids -/
theorem shapes_kids {kind : Int} {name : ByteArray} {labels : List ByteArray} {kids : List Ty} (h : (Ty.mk kind name labels kids).shapes = true) : ∀ t ∈ kids, t.shapes = true := by
  rw [Ty.shapes, Bool.and_eq_true, shapesL_eq, List.all_eq_true] at h
  exact h.2
theorem shapes_cases {kind : Int} {name : ByteArray} {labels : List ByteArray} {kids : List Ty} (h : (Ty.mk kind name labels kids).shapes = true) : ∀ t ∈ Ty.cases ⟨kind, name, labels, kids⟩, t.shapes = true := by
  have hk := shapes_kids h
  intro t ht
  rw [Ty.cases] at ht
  split at ht
  · rcases List.mem_cons.1 ht with rfl | ht
    · exact unit_shapes
    · exact hk t ht
  split at ht
  · exact hk t ht
  · exact absurd ht List.not_mem_nil
theorem shapes_right {kind : Int} {name : ByteArray} {labels : List ByteArray} {kids : List Ty} (h : (Ty.mk kind name labels kids).shapes = true) : kidsRight kind labels.length kids = true ∧ (inB kind 16 19 = true → labelsOk labels = true) := by
  rw [Ty.shapes, Bool.and_eq_true, shape1, Bool.and_eq_true, Bool.and_eq_true] at h
  obtain ⟨⟨⟨_, h1⟩, h2⟩, _⟩ := h
  refine ⟨h2, fun h => by rwa [if_pos h] at h1⟩
/-- the kinds a right type can have, by what their layout asks for -/
structure NumK (kind : Int) (z : Nat) : Prop where
  hz : 0 < z
  hz8 : z ≤ 8
  sz : numN kind = z
  k1 : (kind == 1) = false
  k11 : (kind == 11) = false
  k12 : (kind == 12) = false
  k13 : (kind == 13) = false
  k14 : (kind == 14) = false
  k15 : (kind == 15) = false
  k16 : (kind == 16) = false
  k17 : (kind == 17) = false
  k18 : (kind == 18) = false
  k19 : (kind == 19) = false
  k9 : kind = 9 ∨ (kind == 9) = false
theorem shapes_kind {kind : Int} {name : ByteArray} {labels : List ByteArray} {kids : List Ty} (h : (Ty.mk kind name labels kids).shapes = true) : 1 ≤ kind ∧ kind ≤ 23 := by
  have h2 := (shapes_right h).1
  unfold kidsRight at h2
  by_cases e : kind = 12 ∨ kind = 13 ∨ kind = 22 ∨ kind = 23 ∨ kind = 14 ∨ kind = 15 ∨ kind = 16 ∨ kind = 17
  · omega
  · rw [if_neg (by omega), if_neg (by omega), if_neg (by omega), if_neg (by omega), if_neg (by omega), if_neg (by omega), Bool.and_eq_true, inB_iff] at h2
    exact h2.1
theorem lay_kinds {kind : Int} (h1 : 1 ≤ kind) (h2 : kind ≤ 23) : kind = 1 ∨ kind = 11 ∨ kind = 12 ∨ kind = 18 ∨ kind = 19 ∨ (kind = 15 ∨ kind = 16) ∨ (kind = 13 ∨ kind = 14 ∨ kind = 17) ∨ ∃ z, NumK kind z := by
  by_cases h : kind = 1 ∨ kind = 11 ∨ kind = 12 ∨ kind = 18 ∨ kind = 19 ∨ (kind = 15 ∨ kind = 16) ∨ (kind = 13 ∨ kind = 14 ∨ kind = 17)
  · rcases h with h | h | h | h | h | h | h
    · exact .inl h
    · exact .inr (.inl h)
    · exact .inr (.inr (.inl h))
    · exact .inr (.inr (.inr (.inl h)))
    · exact .inr (.inr (.inr (.inr (.inl h))))
    · exact .inr (.inr (.inr (.inr (.inr (.inl h)))))
    · exact .inr (.inr (.inr (.inr (.inr (.inr (.inl h))))))
  · refine .inr (.inr (.inr (.inr (.inr (.inr (.inr ⟨numN kind, ?_⟩))))))
    have hk : kind = 2 ∨ kind = 3 ∨ kind = 4 ∨ kind = 5 ∨ kind = 6 ∨ kind = 7 ∨ kind = 8 ∨ kind = 9 ∨ kind = 10 ∨ kind = 20 ∨ kind = 21 ∨ kind = 22 ∨ kind = 23 := by omega
    rcases hk with rfl | rfl | rfl | rfl | rfl | rfl | rfl | rfl | rfl | rfl | rfl | rfl | rfl <;> exact ⟨by decide, by decide, rfl, rfl, rfl, rfl, rfl, rfl, rfl, rfl, rfl, rfl, rfl, by decide⟩
end Go.Proofs.Ytmmeaakhikcigaa
