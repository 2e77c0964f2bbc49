/-
  Decimal numerals that are read; cutting at a byte: the plain law. (No walk.)
-/
import Derived.Test.YtdnadmncbicpdaaDoorByt
import Derived.Lib.ItoaMem
import Derived.Lib.ParseIntBCases
import Derived.Lib.Index
namespace Go.Proofs.YtdnadmncbicpdaaDoor
open Go.RowKit
set_option linter.unusedVariables false
set_option linter.unusedSimpArgs false
set_option linter.unnecessarySimpa false

/-- the digits' value, where it is at most M -/
def numM (M : Nat) : Nat → List Int → Option Nat
  | m, [] => some m
  | m, c :: r => if c < 48 ∨ 57 < c then none else if M < 10 * m + (c - 48).toNat then none else numM M (10 * m + (c - 48).toNat) r
def dec10 (u : Nat) : List Int := (Lib.decDigits u).map fun b => (b.toNat : Int)
theorem dec10_one {u : Nat} (h : u < 10) : dec10 u = [48 + (u : Int)] := by
  rw [dec10, Lib.decDigits, dif_pos h, List.map_cons, List.map_nil]
  congr 1
  rw [UInt8.toNat_ofNat']
  have : (48 + u) % 2 ^ 8 = 48 + u := Nat.mod_eq_of_lt (by omega)
  omega
theorem dec10_more {u : Nat} (h : ¬ u < 10) : dec10 u = dec10 (u / 10) ++ [48 + ((u % 10 : Nat) : Int)] := by
  rw [dec10, Lib.decDigits, dif_neg h, List.map_append, List.map_cons, List.map_nil]
  congr 2
  rw [UInt8.toNat_ofNat']
  have : (48 + u % 10) % 2 ^ 8 = 48 + u % 10 := Nat.mod_eq_of_lt (by omega)
  omega
theorem dec10_digit : ∀ (k u : Nat), u ≤ k → ∀ c ∈ dec10 u, 48 ≤ c ∧ c ≤ 57
  | k, u, hk, c, hc => by
    by_cases h : u < 10
    · rw [dec10_one h, List.mem_singleton] at hc
      omega
    · rw [dec10_more h] at hc
      rcases List.mem_append.1 hc with hc | hc
      · match k, hk with
        | 0, hk => omega
        | k + 1, hk => exact dec10_digit k (u / 10) (by omega) c hc
      · rw [List.mem_singleton] at hc
        omega
theorem dec10_len : ∀ (k u : Nat), 1 ≤ k → u < 10 ^ k → (dec10 u).length ≤ k
  | 0, u, h1, h => absurd h1 (by omega)
  | k + 1, u, _, h => by
    by_cases hu : u < 10
    · rw [dec10_one hu]; simp
    · rw [dec10_more hu, List.length_append, List.length_singleton]
      have h10 : 10 ^ (k + 1) = 10 ^ k * 10 := Nat.pow_succ 10 k
      have hk : 1 ≤ k := by
        rcases Nat.eq_zero_or_pos k with rfl | hk
        · simp at h; omega
        · exact hk
      have := dec10_len k (u / 10) hk (by omega)
      omega
theorem dec10_pos : ∀ (u : Nat), dec10 u ≠ [] := fun u => by
  by_cases h : u < 10
  · rw [dec10_one h]; simp
  · rw [dec10_more h]; simp
theorem numM_dec {M : Nat} : ∀ (k u : Nat) (r : List Int), u ≤ k → u ≤ M → numM M 0 (dec10 u ++ r) = numM M u r
  | k, u, r, hk, hM => by
    by_cases h : u < 10
    · rw [dec10_one h]
      show numM M 0 ((48 + (u : Int)) :: r) = _
      rw [numM, if_neg (by omega), if_neg (by omega)]
      have : 10 * 0 + (48 + (u : Int) - 48).toNat = u := by omega
      rw [this]
    · rw [dec10_more h, List.append_assoc]
      match k, hk with
      | 0, hk => omega
      | k + 1, hk =>
        rw [numM_dec k (u / 10) _ (by omega) (by omega)]
        show numM M (u / 10) ((48 + ((u % 10 : Nat) : Int)) :: r) = _
        have e : 10 * (u / 10) + (48 + ((u % 10 : Nat) : Int) - 48).toNat = u := by omega
        rw [numM, if_neg (by omega), e, if_neg (by omega)]
theorem numM_le {M : Nat} : ∀ (l : List Int) (m v : Nat), m ≤ M → numM M m l = some v → v ≤ M
  | [], m, v, h, e => by rw [numM] at e; injection e with e; omega
  | c :: r, m, v, h, e => by
    rw [numM] at e
    split at e
    · cases e
    · split at e
      · cases e
      · exact numM_le r _ v (by omega) e
/-- what l15Number answers behind its loop -/
def numE (mi : Bool) (t : ByteArray) : Option Nat → Int × Bool
  | none => (0, false)
  | some m => if mi = true then (-(m : Int), decide ((⟨(Lib.itoa (-(m : Int))).toArray⟩ : ByteArray) = t)) else if m = 9223372036854775808 then (0, false) else ((m : Int), decide ((⟨(Lib.itoa (m : Int)).toArray⟩ : ByteArray) = t))
def numN (mi : Bool) (fr : Nat) (t : ByteArray) : Int × Bool := if 19 < ((byt t).drop fr).length then (0, false) else numE mi t (numM 9223372036854775808 0 ((byt t).drop fr))
/-- spec's reading of a number: the number, and whether the text is its numeral -/
def numR (t : ByteArray) : Int × Bool := if (byt t).head? = some 45 then numN true 1 t else numN false 0 t
theorem byt_itoa (n : Int) : byt ⟨(Lib.itoa n).toArray⟩ = if n < 0 then 45 :: dec10 n.natAbs else dec10 n.toNat := by
  by_cases h : n < 0
  · rw [if_pos h, Lib.itoa, if_pos h]; rfl
  · rw [if_neg h, Lib.itoa, if_neg h]; rfl
theorem dec10_head (u : Nat) : (dec10 u).head? ≠ some 45 := by
  intro h
  have hm := List.mem_of_mem_head? (Option.mem_def.2 h)
  have := dec10_digit u u (Nat.le_refl _) 45 hm
  omega
theorem pow19 : 9223372036854775808 < 10 ^ 19 := by decide
theorem numR_itoa {n : Int} (h0 : -9223372036854775808 ≤ n) (h1 : n ≤ 9223372036854775807) : numR ⟨(Lib.itoa n).toArray⟩ = (n, true) := by
  have hp := pow19
  have hb := byt_itoa n
  by_cases h : n < 0
  · rw [if_pos h] at hb
    have hm : numM 9223372036854775808 0 (dec10 n.natAbs) = some n.natAbs := by
      have := numM_dec (M := 9223372036854775808) n.natAbs n.natAbs [] (Nat.le_refl _) (by omega)
      rwa [List.append_nil] at this
    have hl := dec10_len 19 n.natAbs (by omega) (by omega)
    have hn : -((n.natAbs : Nat) : Int) = n := by omega
    rw [numR, hb, List.head?_cons, if_pos rfl, numN, hb, List.drop_succ_cons, List.drop_zero, if_neg (by omega), hm, numE, if_pos rfl, hn]
    rw [decide_eq_true rfl]
  · rw [if_neg h] at hb
    have hm : numM 9223372036854775808 0 (dec10 n.toNat) = some n.toNat := by
      have := numM_dec (M := 9223372036854775808) n.toNat n.toNat [] (Nat.le_refl _) (by omega)
      rwa [List.append_nil] at this
    have hl := dec10_len 19 n.toNat (by omega) (by omega)
    have hn : ((n.toNat : Nat) : Int) = n := by omega
    rw [numR, hb, if_neg (dec10_head _), numN, hb, List.drop_zero, if_neg (by omega), hm, numE, if_neg (by decide), hn, if_neg (by omega)]
    rw [decide_eq_true rfl]
theorem numE_true {mi : Bool} {t : ByteArray} {n : Int} : ∀ {o : Option Nat}, numE mi t o = (n, true) → (⟨(Lib.itoa n).toArray⟩ : ByteArray) = t
  | none, h => by rw [numE] at h; injection h with _ h; cases h
  | some m, h => by
    rw [numE] at h
    split at h
    · injection h with h1 h2
      rw [decide_eq_true_eq] at h2
      rw [← h1]; exact h2
    · split at h
      · injection h with _ h; cases h
      · injection h with h1 h2
        rw [decide_eq_true_eq] at h2
        rw [← h1]; exact h2
theorem numN_true {mi : Bool} {fr : Nat} {t : ByteArray} {n : Int} (h : numN mi fr t = (n, true)) : (⟨(Lib.itoa n).toArray⟩ : ByteArray) = t := by
  rw [numN] at h
  split at h
  · injection h with _ h; cases h
  · exact numE_true h
theorem numR_true {t : ByteArray} {n : Int} (h : numR t = (n, true)) : (⟨(Lib.itoa n).toArray⟩ : ByteArray) = t := by
  rw [numR] at h
  split at h
  · exact numN_true h
  · exact numN_true h
theorem numE_rng {mi : Bool} {t : ByteArray} : ∀ {o : Option Nat}, (∀ m, o = some m → m ≤ 9223372036854775808) → -9223372036854775808 ≤ (numE mi t o).1 ∧ (numE mi t o).1 ≤ 9223372036854775807
  | none, _ => by rw [numE]; constructor <;> show _ ≤ _ <;> omega
  | some m, h => by
    have := h m rfl
    rw [numE]
    split
    · constructor <;> show _ ≤ _ <;> omega
    · split
      · constructor <;> show _ ≤ _ <;> omega
      · constructor <;> show _ ≤ _ <;> omega
theorem numN_rng (mi : Bool) (fr : Nat) (t : ByteArray) : -9223372036854775808 ≤ (numN mi fr t).1 ∧ (numN mi fr t).1 ≤ 9223372036854775807 := by
  rw [numN]
  split
  · constructor <;> show _ ≤ _ <;> omega
  · exact numE_rng fun m hm => numM_le _ 0 m (by omega) hm
theorem numR_rng (t : ByteArray) : -9223372036854775808 ≤ (numR t).1 ∧ (numR t).1 ≤ 9223372036854775807 := by
  rw [numR]
  split
  · exact numN_rng _ _ _
  · exact numN_rng _ _ _
/-- strconv.ParseInt reads the numeral back -/
theorem parseM_dec {M : Nat} (hM : M ≤ 18446744073709551615) : ∀ (k u : Nat) (r : List UInt8), u ≤ k → u ≤ M → Lib.parseUintM M 0 (Lib.decDigits u ++ r) = Lib.parseUintM M u r
  | k, u, r, hk, hu => by
    by_cases h : u < 10
    · rw [Lib.decDigits, dif_pos h]
      show Lib.parseUintM M 0 (UInt8.ofNat (48 + u) :: r) = _
      have e : (UInt8.ofNat (48 + u)).toNat = 48 + u := by rw [UInt8.toNat_ofNat']; exact Nat.mod_eq_of_lt (by omega)
      rw [Lib.parseUintM, e, if_pos (by omega), if_neg (by omega), if_neg (by omega)]
      have : 0 * 10 + (48 + u - 48) = u := by omega
      rw [this]
    · rw [Lib.decDigits, dif_neg h, List.append_assoc]
      match k, hk with
      | 0, hk => omega
      | k + 1, hk =>
        rw [parseM_dec hM k (u / 10) _ (by omega) (by omega)]
        show Lib.parseUintM M (u / 10) (UInt8.ofNat (48 + u % 10) :: r) = _
        have e : (UInt8.ofNat (48 + u % 10)).toNat = 48 + u % 10 := by rw [UInt8.toNat_ofNat']; exact Nat.mod_eq_of_lt (by omega)
        have e2 : u / 10 * 10 + (48 + u % 10 - 48) = u := by omega
        rw [Lib.parseUintM, e, if_pos (by omega), if_neg (by omega), e2, if_neg (by omega)]
theorem decDigits_cons (u : Nat) : ∃ c r, Lib.decDigits u = c :: r ∧ 48 ≤ c.toNat ∧ c.toNat ≤ 57 := by
  cases hd : Lib.decDigits u with
  | nil => exact absurd (by rw [dec10, hd]; rfl) (dec10_pos u)
  | cons c r =>
    have := dec10_digit u u (Nat.le_refl _) (c.toNat : Int) (by rw [dec10, hd]; simp)
    exact ⟨c, r, rfl, by omega, by omega⟩
theorem parse_itoa {n : Int} (h0 : -9223372036854775808 ≤ n) (h1 : n ≤ 9223372036854775807) : Lib.parseIntB 64 (Lib.itoa n) = .ok n := by
  have hp : (2 : Nat) ^ 64 - 1 = 18446744073709551615 := by decide
  have hq : (2 : Nat) ^ (64 - 1) = 9223372036854775808 := by decide
  have hM : ∀ u : Nat, u ≤ 18446744073709551615 → Lib.parseUintB 64 (Lib.decDigits u) = .ok u := fun u hu => by
    obtain ⟨c, r, hc, _, _⟩ := decDigits_cons u
    have hne : ¬ Lib.decDigits u = [] := by rw [hc]; simp
    rw [Lib.parseUintB, if_neg hne, hp]
    have := parseM_dec (M := 18446744073709551615) (Nat.le_refl _) u u [] (Nat.le_refl _) hu
    rw [List.append_nil] at this
    rw [this]; rfl
  by_cases h : n < 0
  · rw [Lib.itoa, if_pos h, Lib.parseIntB_minus, hM _ (by omega), hq, Lib.signedC]
    rw [if_neg (by omega)]
    congr 1
    omega
  · rw [Lib.itoa, if_neg h]
    obtain ⟨c, r, hc, hc1, hc2⟩ := decDigits_cons n.toNat
    have hm := hM n.toNat (by omega)
    rw [hc] at hm ⊢
    rw [Lib.parseIntB_plain 64 c r (by omega) (by omega), hm, hq, Lib.signlessC]
    rw [if_neg (by omega)]
    congr 1
    omega
/-- a text, cut at each separator -/
def cutL (sep : Int) : List Int → List (List Int)
  | [] => [[]]
  | c :: r => if c = sep then [] :: cutL sep r else match cutL sep r with
    | [] => [[c]]
    | p :: ps => (c :: p) :: ps
theorem cutL_ne (sep : Int) : ∀ l, cutL sep l ≠ []
  | [] => by simp [cutL]
  | c :: r => by
    rw [cutL]
    split
    · simp
    · split <;> simp
/-- what stands before, put ahead of the first piece -/
def onHd (p : List Int) : List (List Int) → List (List Int)
  | [] => [p]
  | q :: qs => (p ++ q) :: qs
theorem cutL_no {sep : Int} : ∀ (p r : List Int), (∀ c ∈ p, c ≠ sep) → cutL sep (p ++ r) = onHd p (cutL sep r)
  | [], r, _ => by
    cases hc : cutL sep r with
    | nil => exact absurd hc (cutL_ne sep r)
    | cons q qs => rw [List.nil_append, hc]; rfl
  | c :: p, r, h => by
    rw [List.cons_append, cutL, if_neg (h c (by simp)), cutL_no p r (fun x hx => h x (by simp [hx]))]
    cases hc : cutL sep r with
    | nil => exact absurd hc (cutL_ne sep r)
    | cons q qs => rfl
theorem cutL_sep {sep : Int} (r : List Int) : cutL sep (sep :: r) = [] :: cutL sep r := by rw [cutL, if_pos rfl]
theorem cutL_one {sep : Int} {p : List Int} (h : ∀ c ∈ p, c ≠ sep) : cutL sep p = [p] := by
  have := cutL_no p [] h
  rw [List.append_nil] at this
  rw [this]
  show onHd p [[]] = _
  rw [onHd, List.append_nil]
theorem cutL_two {sep : Int} {p r : List Int} (h : ∀ c ∈ p, c ≠ sep) : cutL sep (p ++ sep :: r) = p :: cutL sep r := by
  rw [cutL_no p _ h, cutL_sep]
  show (p ++ []) :: _ = _
  rw [List.append_nil]
theorem cutL_len (sep : Int) : ∀ l : List Int, (cutL sep l).length ≤ l.length + 1
  | [] => by simp [cutL]
  | c :: r => by
    have ih := cutL_len sep r
    rw [cutL]
    split
    · simp; omega
    · split
      · simp
      · next p ps he => rw [he] at ih; simp at ih ⊢; omega
theorem cutL_mem {sep : Int} : ∀ {l p : List Int}, p ∈ cutL sep l → p.length ≤ l.length ∧ ∀ c ∈ p, c ∈ l
  | [], p, h => by simp [cutL] at h; subst h; simp
  | c :: r, p, h => by
    rw [cutL] at h
    split at h
    · rcases List.mem_cons.1 h with rfl | h
      · simp
      · obtain ⟨h1, h2⟩ := cutL_mem h
        exact ⟨by simp; omega, fun x hx => by simp [h2 x hx]⟩
    · split at h
      · next he => exact absurd he (cutL_ne sep r)
      · next q qs he =>
        rcases List.mem_cons.1 h with rfl | h
        · obtain ⟨h1, h2⟩ := cutL_mem (sep := sep) (l := r) (p := q) (by rw [he]; simp)
          refine ⟨by simp; omega, fun x hx => ?_⟩
          rcases List.mem_cons.1 hx with rfl | hx
          · simp
          · simp [h2 x hx]
        · obtain ⟨h1, h2⟩ := cutL_mem (sep := sep) (l := r) (p := p) (by rw [he]; simp [h])
          exact ⟨by simp; omega, fun x hx => by simp [h2 x hx]⟩
end Go.Proofs.YtdnadmncbicpdaaDoor

