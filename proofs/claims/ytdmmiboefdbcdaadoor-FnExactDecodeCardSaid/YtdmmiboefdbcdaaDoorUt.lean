/-
  UTF-8 in plain Lean: the code points of a text, and the library's and the model's own decoding. No program in sight.
-/
import Derived.Test.YtdmmiboefdbcdaaDoorByt
import Derived.Lib.RuneBytes
import Derived.Lib.ValidLaws
import Derived.Lib.TrimUEq
namespace Go.Proofs.YtdmmiboefdbcdaaDoor
open Go.RowKit
set_option linter.unusedVariables false
set_option linter.unusedSimpArgs false
set_option linter.unnecessarySimpa false

def charOk (n : Int) : Bool := inB n 0 55295 || inB n 57344 1114111
theorem charOk_rune {n : Int} (h : charOk n = true) : (0 ≤ n ∧ n ≤ 55295) ∨ (57344 ≤ n ∧ n ≤ 1114111) := by
  simp only [charOk, Bool.or_eq_true, inB_iff] at h
  exact h
theorem charOk_of {n : Int} (h : (0 ≤ n ∧ n ≤ 55295) ∨ (57344 ≤ n ∧ n ≤ 1114111)) : charOk n = true := by
  simp only [charOk, Bool.or_eq_true, inB_iff]
  exact h
theorem charOk_iff {n : Int} : charOk n = true ↔ (0 ≤ n ∧ n ≤ 55295) ∨ (57344 ≤ n ∧ n ≤ 1114111) := ⟨charOk_rune, charOk_of⟩
theorem charOk_no {n : Int} (h : ¬ ((0 ≤ n ∧ n ≤ 55295) ∨ (57344 ≤ n ∧ n ≤ 1114111))) : charOk n = false := by
  cases e : charOk n
  · rfl
  · exact absurd (charOk_rune e) h
def encs (xs : List Int) : List Int := xs.flatMap Lib.encodeRuneZ
theorem encs_cons (x : Int) (xs : List Int) : encs (x :: xs) = Lib.encodeRuneZ x ++ encs xs := rfl
theorem encs_append (xs ys : List Int) : encs (xs ++ ys) = encs xs ++ encs ys := by simp [encs]
theorem encs_byte {xs : List Int} : ∀ b ∈ encs xs, 0 ≤ b ∧ b ≤ 255 := by
  intro b hb
  simp only [encs, List.mem_flatMap] at hb
  obtain ⟨x, _, hx⟩ := hb
  have := Lib.encodeRuneZ_byte x b hx
  omega
theorem enc_byte (x : Int) : ∀ b ∈ Lib.encodeRuneZ x, 0 ≤ b ∧ b ≤ 255 := fun b hb => by
  have := Lib.encodeRuneZ_byte x b hb
  omega

/-! ### the first code point, as the reference takes it -/
def manyOf (b : Int) : Nat := if 240 ≤ b then 4 else if 224 ≤ b then 3 else if 192 ≤ b then 2 else 1
def headOf (b : Int) : Int := if 240 ≤ b then b - 240 else if 224 ≤ b then b - 224 else if 192 ≤ b then b - 192 else b
def vvl (a : Int) : List Int → Int
  | [] => a
  | c :: r => vvl (a * 64 + c % 64) r
def ptVal (l : List Int) (b : Int) : Int := vvl (headOf b) ((l.take (manyOf b)).drop 1)
def pt1 (l : List Int) : Option (Int × Nat) :=
  match l with
  | [] => none
  | b :: r => if manyOf b ≤ (b :: r).length ∧ charOk (ptVal (b :: r) b) = true ∧ Lib.encodeRuneZ (ptVal (b :: r) b) = (b :: r).take (manyOf b) then some (ptVal (b :: r) b, manyOf b) else none
theorem pt1_some {l : List Int} {n : Int} {m : Nat} (h : pt1 l = some (n, m)) : charOk n = true ∧ m = (Lib.encodeRuneZ n).length ∧ m ≤ l.length ∧ l = Lib.encodeRuneZ n ++ l.drop m := by
  cases l with
  | nil => cases h
  | cons b r =>
    rw [pt1] at h
    split at h
    · rename_i hc
      obtain ⟨h1, h2, h3⟩ := hc
      injection h with h
      injection h with h4 h5
      subst h4 h5
      refine ⟨h2, ?_, h1, ?_⟩
      · rw [h3, List.length_take]; omega
      · rw [h3, List.take_append_drop]
    · cases h
theorem enc_cases {x : Int} (h : charOk x = true) :
    (0 ≤ x ∧ x ≤ 127 ∧ Lib.encodeRuneZ x = [x]) ∨ (128 ≤ x ∧ x ≤ 2047 ∧ Lib.encodeRuneZ x = [192 + x / 64, 128 + x % 64]) ∨
    (2048 ≤ x ∧ x ≤ 65535 ∧ Lib.encodeRuneZ x = [224 + x / 4096, 128 + x / 64 % 64, 128 + x % 64]) ∨
    (65536 ≤ x ∧ x ≤ 1114111 ∧ Lib.encodeRuneZ x = [240 + x / 262144, 128 + x / 4096 % 64, 128 + x / 64 % 64, 128 + x % 64]) := by
  have := charOk_rune h
  rcases (show x ≤ 127 ∨ (128 ≤ x ∧ x ≤ 2047) ∨ (2048 ≤ x ∧ x ≤ 65535) ∨ 65536 ≤ x by omega) with h1 | h1 | h1 | h1
  · exact .inl ⟨by omega, h1, Lib.encodeRuneZ_one (by omega) h1⟩
  · exact .inr (.inl ⟨h1.1, h1.2, Lib.encodeRuneZ_two h1.1 h1.2⟩)
  · exact .inr (.inr (.inl ⟨h1.1, h1.2, Lib.encodeRuneZ_three (by omega)⟩))
  · exact .inr (.inr (.inr ⟨h1, by omega, Lib.encodeRuneZ_four h1 (by omega)⟩))
theorem pt1_enc {x : Int} (h : charOk x = true) (r : List Int) : pt1 (Lib.encodeRuneZ x ++ r) = some (x, (Lib.encodeRuneZ x).length) := by
  rcases enc_cases h with ⟨h0, h1, e⟩ | ⟨h0, h1, e⟩ | ⟨h0, h1, e⟩ | ⟨h0, h1, e⟩
  · have hm : manyOf x = 1 := by unfold manyOf; split <;> (try split) <;> (try split) <;> omega
    have hh : headOf x = x := by unfold headOf; split <;> (try split) <;> (try split) <;> omega
    have hv : ptVal (x :: r) x = x := by rw [ptVal, hm, hh]; simp [vvl]
    rw [e]
    show pt1 (x :: r) = some (x, 1)
    rw [pt1, hv, hm, if_pos ⟨by simp, h, by rw [e]; simp⟩]
  · obtain ⟨b, hb⟩ : ∃ b, b = 192 + x / 64 := ⟨_, rfl⟩
    have hm : manyOf b = 2 := by unfold manyOf; split <;> (try split) <;> (try split) <;> omega
    have hh : headOf b = b - 192 := by unfold headOf; split <;> (try split) <;> (try split) <;> omega
    have hv : ptVal (b :: (128 + x % 64) :: r) b = x := by rw [ptVal, hm, hh]; simp [vvl]; omega
    rw [e]
    simp only [List.cons_append, List.nil_append]
    rw [← hb]
    show (if _ ∧ _ then _ else _) = _
    rw [hv, hm, if_pos ⟨by simp, h, by rw [e, hb]; simp⟩]; rfl
  · obtain ⟨b, hb⟩ : ∃ b, b = 224 + x / 4096 := ⟨_, rfl⟩
    have hm : manyOf b = 3 := by unfold manyOf; split <;> (try split) <;> (try split) <;> omega
    have hh : headOf b = b - 224 := by unfold headOf; split <;> (try split) <;> (try split) <;> omega
    have hv : ptVal (b :: (128 + x / 64 % 64) :: (128 + x % 64) :: r) b = x := by rw [ptVal, hm, hh]; simp [vvl]; omega
    rw [e]
    simp only [List.cons_append, List.nil_append]
    rw [← hb]
    show (if _ ∧ _ then _ else _) = _
    rw [hv, hm, if_pos ⟨by simp, h, by rw [e, hb]; simp⟩]; rfl
  · obtain ⟨b, hb⟩ : ∃ b, b = 240 + x / 262144 := ⟨_, rfl⟩
    have hm : manyOf b = 4 := by unfold manyOf; split <;> (try split) <;> (try split) <;> omega
    have hh : headOf b = b - 240 := by unfold headOf; split <;> (try split) <;> (try split) <;> omega
    have hv : ptVal (b :: (128 + x / 4096 % 64) :: (128 + x / 64 % 64) :: (128 + x % 64) :: r) b = x := by rw [ptVal, hm, hh]; simp [vvl]; omega
    rw [e]
    simp only [List.cons_append, List.nil_append]
    rw [← hb]
    show (if _ ∧ _ then _ else _) = _
    rw [hv, hm, if_pos ⟨by simp, h, by rw [e, hb]; simp⟩]; rfl

/-! ### all code points -/
def ptsN : Nat → List Int → Option (List Int)
  | _, [] => some []
  | 0, _ :: _ => none
  | f + 1, b :: r => match pt1 (b :: r) with
    | none => none
    | some (n, m) => (ptsN f ((b :: r).drop m)).map (n :: ·)
def ptsQ (l : List Int) : Option (List Int) := ptsN l.length l
def Txt (l xs : List Int) : Prop := (∀ x ∈ xs, charOk x = true) ∧ l = encs xs
theorem ptsN_txt : ∀ (f : Nat) {l xs : List Int}, ptsN f l = some xs → Txt l xs
  | f, [], xs, h => by
    have : xs = [] := by cases f <;> (rw [ptsN] at h; injection h with h; exact h.symm)
    subst this
    exact ⟨by simp, rfl⟩
  | 0, b :: r, xs, h => by rw [ptsN] at h; cases h
  | f + 1, b :: r, xs, h => by
    rw [ptsN] at h
    cases hp : pt1 (b :: r) with
    | none => rw [hp] at h; cases h
    | some p =>
      obtain ⟨n, m⟩ := p
      rw [hp] at h
      obtain ⟨ys, hy, rfl⟩ := Option.map_eq_some_iff.1 h
      obtain ⟨h1, h2, h3, h4⟩ := pt1_some hp
      obtain ⟨k1, k2⟩ := ptsN_txt f hy
      refine ⟨fun x hx => ?_, ?_⟩
      · rcases List.mem_cons.1 hx with rfl | hx
        · exact h1
        · exact k1 x hx
      · rw [encs_cons, ← k2]; exact h4
theorem enc_ne (x : Int) : ∃ b r, Lib.encodeRuneZ x = b :: r := by
  have := (Lib.encodeRuneZ_length x).1
  cases h : Lib.encodeRuneZ x with
  | nil => rw [h] at this; simp at this
  | cons b r => exact ⟨b, r, rfl⟩
theorem ptsN_of : ∀ (xs : List Int) (f : Nat), (∀ x ∈ xs, charOk x = true) → (encs xs).length ≤ f → ptsN f (encs xs) = some xs
  | [], f, _, _ => by cases f <;> rfl
  | x :: xs, f, h, hf => by
    have h1 := h x (by simp)
    have hl := (Lib.encodeRuneZ_length x).1
    have hp := pt1_enc h1 (encs xs)
    obtain ⟨b, r, hb⟩ := enc_ne x
    rw [encs_cons] at hf ⊢
    rw [List.length_append] at hf
    obtain ⟨f', rfl⟩ : ∃ f', f = f' + 1 := ⟨f - 1, by omega⟩
    have hd : (Lib.encodeRuneZ x ++ encs xs).drop (Lib.encodeRuneZ x).length = encs xs := by simp
    rw [hb, List.cons_append] at hp hd ⊢
    rw [ptsN, hp]
    simp only
    rw [hd, ptsN_of xs f' (fun y hy => h y (by simp [hy])) (by omega)]
    rfl
theorem ptsQ_iff {l xs : List Int} : ptsQ l = some xs ↔ Txt l xs := by
  constructor
  · exact ptsN_txt _
  · rintro ⟨h1, rfl⟩
    exact ptsN_of xs _ h1 (Nat.le_refl _)
theorem ptsQ_nil : ptsQ [] = some [] := rfl
theorem Txt.uniq {l xs ys : List Int} (h : Txt l xs) (k : Txt l ys) : xs = ys := by
  have h1 := ptsQ_iff.2 h
  rw [ptsQ_iff.2 k] at h1
  injection h1 with h1
  exact h1.symm
theorem ptsQ_step_none {b : Int} {r : List Int} (h : pt1 (b :: r) = none) : ptsQ (b :: r) = none := by
  show ptsN (r.length + 1) (b :: r) = none
  rw [ptsN, h]
theorem ptsQ_step {l : List Int} {n : Int} {m : Nat} (h : pt1 l = some (n, m)) : ptsQ l = (ptsQ (l.drop m)).map (n :: ·) := by
  obtain ⟨h1, h2, h3, h4⟩ := pt1_some h
  cases hq : ptsQ (l.drop m) with
  | some xs =>
    obtain ⟨k1, k2⟩ := ptsQ_iff.1 hq
    refine ptsQ_iff.2 ⟨fun x hx => ?_, ?_⟩
    · rcases List.mem_cons.1 hx with rfl | hx
      · exact h1
      · exact k1 x hx
    · rw [encs_cons, ← k2]; exact h4
  | none =>
    cases hl : ptsQ l with
    | none => rfl
    | some ys =>
      obtain ⟨k1, k2⟩ := ptsQ_iff.1 hl
      cases ys with
      | nil =>
        have := (Lib.encodeRuneZ_length n).1
        rw [k2] at h3
        simp [encs] at h3
        omega
      | cons y ys =>
        have hp := pt1_enc (k1 y (by simp)) (encs ys)
        rw [← encs_cons, ← k2, h] at hp
        injection hp with hp
        injection hp with e1 e2
        subst e1
        have : l.drop m = encs ys := by rw [k2, encs_cons, e2]; simp
        rw [ptsQ_iff.2 ⟨fun x hx => k1 x (by simp [hx]), this⟩] at hq
        cases hq

/-! ### the model's decoding -/
theorem pt1_low {b : Int} (h0 : 0 ≤ b) (h1 : b < 128) (r : List Int) : pt1 (b :: r) = some (b, 1) := by
  have h : charOk b = true := charOk_of (by omega)
  have := pt1_enc h r
  rwa [Lib.encodeRuneZ_one h0 (by omega)] at this
theorem dec1 {b c d e : Int} {r : List Int} (hc : 0 ≤ c ∧ c ≤ 255) (hd : 0 ≤ d ∧ d ≤ 255) (he : 0 ≤ e ∧ e ≤ 255) (hb : 0 ≤ b ∧ b ≤ 255) (n : Nat) (l : List Int) (hl : l = b :: r) (hn : l.length = n)
    (h1 : 1 < n → l[1]? = some c) (h2 : 2 < n → l[2]? = some d) (h3 : 3 < n → l[3]? = some e) :
    (pt1 l = none ∧ Lib.decodeN n b.toNat c.toNat d.toNat e.toNat = (65533, 1)) ∨ (∃ x m, pt1 l = some (x, m) ∧ Lib.decodeN n b.toNat c.toNat d.toNat e.toNat = (x.toNat, m) ∧ ¬ (x = 65533 ∧ m = 1)) := by
  cases hp : pt1 l with
  | some p =>
    obtain ⟨x, m⟩ := p
    obtain ⟨k1, k2, k3, k4⟩ := pt1_some hp
    refine .inr ⟨x, m, rfl, ?_⟩
    rcases enc_cases k1 with ⟨g0, g1, g⟩ | ⟨g0, g1, g⟩ | ⟨g0, g1, g⟩ | ⟨g0, g1, g⟩
    · rw [g] at k2 k4
      simp only [List.length_cons, List.length_nil, Nat.zero_add] at k2
      subst k2
      rw [hl] at k4
      simp only [List.cons_append, List.cons.injEq] at k4
      obtain ⟨rfl, _⟩ := k4
      unfold Lib.decodeN
      rw [if_pos (by omega)]
      exact ⟨rfl, by omega⟩
    · rw [g] at k2 k4
      simp only [List.length_cons, List.length_nil, Nat.zero_add] at k2
      subst k2
      have e1 := h1 (by omega)
      rw [k4] at e1
      rw [hl] at k4
      simp only [List.cons_append, List.cons.injEq, List.getElem?_cons_succ, List.getElem?_cons_zero, Option.some.injEq] at k4 e1
      obtain ⟨k5, _⟩ := k4
      unfold Lib.decodeN
      rw [if_neg (by omega), if_pos (by omega), if_pos (by omega)]
      exact ⟨Prod.ext (by simp only; omega) rfl, by omega⟩
    · rw [g] at k2 k4
      simp only [List.length_cons, List.length_nil, Nat.zero_add] at k2
      subst k2
      have e1 := h1 (by omega)
      have e2 := h2 (by omega)
      rw [k4] at e1 e2
      rw [hl] at k4
      simp only [List.cons_append, List.cons.injEq, List.getElem?_cons_succ, List.getElem?_cons_zero, Option.some.injEq] at k4 e1 e2
      obtain ⟨k5, _⟩ := k4
      have kr := charOk_rune k1
      unfold Lib.decodeN
      rw [if_neg (by omega), if_neg (by omega), if_pos (by omega), if_pos (by omega)]
      exact ⟨Prod.ext (by simp only; omega) rfl, by omega⟩
    · rw [g] at k2 k4
      simp only [List.length_cons, List.length_nil, Nat.zero_add] at k2
      subst k2
      have e1 := h1 (by omega)
      have e2 := h2 (by omega)
      have e3 := h3 (by omega)
      rw [k4] at e1 e2 e3
      rw [hl] at k4
      simp only [List.cons_append, List.cons.injEq, List.getElem?_cons_succ, List.getElem?_cons_zero, Option.some.injEq] at k4 e1 e2 e3
      obtain ⟨k5, _⟩ := k4
      have kr := charOk_rune k1
      unfold Lib.decodeN
      rw [if_neg (by omega), if_neg (by omega), if_neg (by omega), if_pos (by omega), if_pos (by omega)]
      exact ⟨Prod.ext (by simp only; omega) rfl, by omega⟩
  | none =>
    refine .inl ⟨rfl, ?_⟩
    have hno : ∀ x, charOk x = true → ∀ t, l ≠ Lib.encodeRuneZ x ++ t := fun x hx t e => by rw [e, pt1_enc hx t] at hp; cases hp
    unfold Lib.decodeN
    split
    · rename_i hb1
      exact absurd (by rw [hl, Lib.encodeRuneZ_one (by omega) (by omega)]; rfl) (hno b (charOk_of (by omega)) r)
    split
    · split
      · rename_i hb1 hb2 hb3
        have e1 := h1 hb2.2.1
        obtain ⟨t, ht⟩ : ∃ t, l = b :: c :: t := by
          rw [hl] at e1 ⊢
          match r, e1 with
          | y :: t, e1 => simp at e1; exact ⟨t, by rw [e1]⟩
        refine absurd ?_ (hno (b % 32 * 64 + c % 64) (charOk_of (by omega)) t)
        rw [ht, Lib.encodeRuneZ_two (by omega) (by omega)]
        simp only [List.cons_append, List.nil_append, List.cons.injEq, and_true]
        omega
      · rfl
    split
    · split
      · rename_i hb1 _ hb2 hb3
        have e1 := h1 hb2.2.1.1
        have e2 := h2 hb2.2.2.1
        obtain ⟨t, ht⟩ : ∃ t, l = b :: c :: d :: t := by
          rw [hl] at e1 e2 ⊢
          match r, e1, e2 with
          | y :: z :: t, e1, e2 => simp at e1 e2; exact ⟨t, by rw [e1, e2]⟩
          | [y], e1, e2 => simp at e2
        refine absurd ?_ (hno (b % 16 * 4096 + c % 64 * 64 + d % 64) (charOk_of (by omega)) t)
        rw [ht, Lib.encodeRuneZ_three (by omega)]
        simp only [List.cons_append, List.nil_append, List.cons.injEq, and_true]
        omega
      · rfl
    split
    · split
      · rename_i hb1 _ _ hb2 hb3
        have e1 := h1 hb2.2.1.1
        have e2 := h2 hb2.2.2.1.1
        have e3 := h3 hb2.2.2.2.1
        obtain ⟨t, ht⟩ : ∃ t, l = b :: c :: d :: e :: t := by
          rw [hl] at e1 e2 e3 ⊢
          match r, e1, e2, e3 with
          | y :: z :: u :: t, e1, e2, e3 => simp at e1 e2 e3; exact ⟨t, by rw [e1, e2, e3]⟩
          | [y, z], e1, e2, e3 => simp at e3
          | [y], e1, e2, e3 => simp at e2
        refine absurd ?_ (hno (b % 8 * 262144 + c % 64 * 4096 + d % 64 * 64 + e % 64) (charOk_of (by omega)) t)
        rw [ht, Lib.encodeRuneZ_four (by omega) (by omega)]
        simp only [List.cons_append, List.nil_append, List.cons.injEq, and_true]
        omega
      · rfl
    · rfl
def ints (l : List UInt8) : List Int := l.map fun b => (b.toNat : Int)
theorem dec2 (l : List UInt8) (hne : l ≠ []) : (pt1 (ints l) = none ∧ Lib.decodeL l = (65533, 1)) ∨ (∃ x m, pt1 (ints l) = some (x, m) ∧ Lib.decodeL l = (x.toNat, m) ∧ ¬ (x = 65533 ∧ m = 1)) := by
  cases l with
  | nil => exact absurd rfl hne
  | cons b r =>
    have hu : ∀ k, 0 ≤ ((((b :: r).getD k 0).toNat : Nat) : Int) ∧ ((((b :: r).getD k 0).toNat : Nat) : Int) ≤ 255 := fun k => by have := ((b :: r).getD k 0).toNat_lt; omega
    have hk : ∀ k, k < (b :: r).length → (ints (b :: r))[k]? = some ((((b :: r).getD k 0).toNat : Nat) : Int) := fun k h => by
      simp only [ints, List.getElem?_map, List.getElem?_eq_getElem h, Option.map_some, List.getD_eq_getElem?_getD, Option.getD_some]
    have := dec1 (b := ((((b :: r).getD 0 0).toNat : Nat) : Int)) (r := ints r) (hu 1) (hu 2) (hu 3) (hu 0) (b :: r).length (ints (b :: r)) (by simp [ints]) (by simp [ints]) (hk 1) (hk 2) (hk 3)
    rw [Lib.decodeL_N]
    simpa using this
theorem validD_pts : ∀ (k : Nat) (l : List UInt8), l.length ≤ k → Lib.validD l = (ptsQ (ints l)).isSome
  | _, [], _ => rfl
  | 0, b :: r, h => by simp at h
  | k + 1, b :: r, h => by
    rw [Lib.validD_step _ (by simp)]
    rcases dec2 (b :: r) (by simp) with ⟨h1, h2⟩ | ⟨x, m, h1, h2, h3⟩
    · rw [h2, if_pos ⟨rfl, rfl⟩]
      rw [show ints (b :: r) = (b.toNat : Int) :: ints r from rfl] at h1 ⊢
      rw [ptsQ_step_none h1]; rfl
    · obtain ⟨g1, g2, g3, g4⟩ := pt1_some h1
      have := charOk_rune g1
      have hm := (Lib.encodeRuneZ_length x).1
      rw [h2, if_neg (by intro e; apply h3; simp only at e; omega), validD_pts k _ (by simp at h ⊢; omega), ptsQ_step h1]
      have : ints ((b :: r).drop m) = (ints (b :: r)).drop m := by simp [ints, List.map_drop]
      rw [this]
      cases ptsQ ((ints (b :: r)).drop m) <;> rfl
theorem valid_str (s : ByteArray) : Lib.validD s.data.toList = (ptsQ (byt s)).isSome := validD_pts _ _ (Nat.le_refl _)
/-- the model's decoding inside a text -/
theorem decode_txt {s : ByteArray} {xs : List Int} {pre : Nat} {x : Int} {r : List Int} (h : (byt s).drop pre = Lib.encodeRuneZ x ++ r) (hx : charOk x = true) : Utf8.decode s pre = (x.toNat, (Lib.encodeRuneZ x).length) := by
  rw [← Lib.decodeL_drop]
  have hne : s.data.toList.drop pre ≠ [] := by
    intro e
    have : (byt s).drop pre = [] := by rw [byt, ← List.map_drop, e]; rfl
    rw [this] at h
    have := (Lib.encodeRuneZ_length x).1
    have h2 := congrArg List.length h
    simp at h2
    omega
  have hi : ints (s.data.toList.drop pre) = Lib.encodeRuneZ x ++ r := by rw [← h, byt, ints, List.map_drop]
  rcases dec2 _ hne with ⟨h1, h2⟩ | ⟨y, m, h1, h2, h3⟩
  · rw [hi, pt1_enc hx] at h1; cases h1
  · rw [hi, pt1_enc hx] at h1
    injection h1 with h1
    injection h1 with e1 e2
    rw [h2, ← e1, ← e2]
end Go.Proofs.YtdmmiboefdbcdaaDoor

