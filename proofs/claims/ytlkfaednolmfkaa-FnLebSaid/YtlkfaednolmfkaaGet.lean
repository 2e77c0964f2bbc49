/-
  LEB128 is read: spec.l01Leb, GetLeb, GetSleb, impl.GetLeb, GetSleb, in plain Lean and walked.
-/
import Derived.Test.YtlkfaednolmfkaaLebW
import Derived.Test.YtlkfaednolmfkaaByt
import Derived.Test.YtlkfaednolmfkaaBit
import Derived.Laws.BitsAllLaws
import Derived.Laws.Shifts
import Derived.Laws.Concat
import Derived.Lib.RabinKarpLaws
import Derived.Deep.RegionHeld3
namespace Go.Proofs.Ytlkfaednolmfkaa
open Go.RowKit
set_option linter.unusedVariables false
set_option linter.unusedSimpArgs false
set_option linter.unnecessarySimpa false
set_option maxRecDepth 16000

/-! ### values -/
def val : List Int → Int
  | [] => 0
  | b :: r => b % 128 + 128 * val r
theorem val_nonneg : ∀ l : List Int, 0 ≤ val l
  | [] => by simp [val]
  | b :: r => by have := val_nonneg r; rw [val]; omega
theorem val_lt : ∀ l : List Int, val l < 128 ^ l.length
  | [] => by simp [val]
  | b :: r => by
    have := val_lt r
    rw [val, List.length_cons, Int.pow_succ]
    omega
theorem val_append : ∀ (l r : List Int), val (l ++ r) = val l + 128 ^ l.length * val r
  | [], r => by simp [val]
  | b :: l, r => by
    rw [List.cons_append, val, val, val_append l r, List.length_cons, Int.pow_succ]
    rw [Int.mul_add, ← Int.mul_assoc, Int.mul_comm 128 (128 ^ l.length)]
    omega
theorem val_take_succ {l : List Int} {k : Nat} {b : Int} (h : l[k]? = some b) : val (l.take (k + 1)) = val (l.take k) + b % 128 * 128 ^ k := by
  have hk := (List.getElem?_eq_some_iff.1 h).1
  rw [List.take_add_one, h, val_append]
  simp [val, Nat.min_eq_left (Nat.le_of_lt hk), Int.mul_comm]
/-- how many bytes up to the first below 128, within the first f -/
def pref : Nat → List Int → Option Nat
  | 0, _ => none
  | _ + 1, [] => none
  | f + 1, b :: r => if b < 128 then some 1 else (pref f r).map (· + 1)
theorem pref_hit : ∀ {k f : Nat} {l : List Int} {b : Int}, (∀ (j : Nat) (x : Int), j < k → l[j]? = some x → 128 ≤ x) → l[k]? = some b → b < 128 → k < f → pref f l = some (k + 1)
  | 0, f + 1, c :: r, b, _, hb, hlt, _ => by
    simp at hb
    subst hb
    rw [pref, if_pos hlt]
  | k + 1, f + 1, c :: r, b, hp, hb, hlt, hf => by
    have h0 := hp 0 c (by omega) (by simp)
    rw [pref, if_neg (by omega), pref_hit (k := k) (fun j x hj hx => hp (j + 1) x (by omega) (by simpa using hx)) (by simpa using hb) hlt (by omega)]
    rfl
  | k, f, [], b, _, hb, _, _ => by simp at hb
theorem pref_none : ∀ {f : Nat} {l : List Int}, (∀ (j : Nat) (x : Int), j < f → l[j]? = some x → 128 ≤ x) → pref f l = none
  | 0, l, _ => by cases l <;> rfl
  | f + 1, [], _ => rfl
  | f + 1, c :: r, hp => by
    have h0 := hp 0 c (by omega) (by simp)
    rw [pref, if_neg (by omega), pref_none (f := f) fun j x hj hx => hp (j + 1) x (by omega) (by simpa using hx)]
    rfl
theorem hi_next {l : List Int} {k : Nat} {b : Int} (hp : ∀ (j : Nat) (x : Int), j < k → l[j]? = some x → 128 ≤ x) (hx : l[k]? = some b) (hb : 128 ≤ b) : ∀ (j : Nat) (x : Int), j < k + 1 → l[j]? = some x → 128 ≤ x := by
  intro j x hj h
  by_cases e : j = k
  · subst e
    rw [hx] at h
    injection h with h
    omega
  · exact hp j x (by omega) h

/-! ### which encodings are the shortest -/
theorem leb_mem : ∀ (f : Nat) {n : Int}, n.toNat ≤ f → 0 ≤ n → ∀ x ∈ leb n, 0 ≤ x ∧ x ≤ 255
  | 0, n, hf, h0, x, hx => by
    rw [leb_one (by omega)] at hx
    simp at hx
    omega
  | f + 1, n, hf, h0, x, hx => by
    by_cases h : n ≤ 127
    · rw [leb_one h] at hx
      simp at hx
      omega
    · rw [leb_more (by omega)] at hx
      rcases List.mem_cons.1 hx with rfl | hx
      · omega
      · exact leb_mem f (n := n / 128) (by omega) (by omega) x hx
theorem sleb_mem : ∀ (f : Nat) {n : Int}, n.natAbs ≤ f → ∀ x ∈ sleb n, 0 ≤ x ∧ x ≤ 255
  | 0, n, hf, x, hx => by
    rw [sleb_one (by omega) (by omega)] at hx
    simp at hx
    omega
  | f + 1, n, hf, x, hx => by
    by_cases h : -64 ≤ n ∧ n ≤ 63
    · rw [sleb_one h.1 h.2] at hx
      simp at hx
      omega
    · rw [sleb_more h] at hx
      rcases List.mem_cons.1 hx with rfl | hx
      · omega
      · exact sleb_mem f (n := n / 128) (by omega) x hx
theorem leb_last : ∀ (f : Nat) {n : Int}, n.toNat ≤ f → 0 < n → ∀ (q : List Int) (b : Int), leb n = q ++ [b] → b ≠ 0
  | 0, n, hf, h0, q, b, h => by omega
  | f + 1, n, hf, h0, q, b, h => by
    by_cases hn : n ≤ 127
    · rw [leb_one hn] at h
      cases q with
      | nil => simp at h; omega
      | cons c q => simp at h
    · rw [leb_more (by omega)] at h
      cases q with
      | nil =>
        simp at h
        have : (leb (n / 128)).length = 0 := by rw [h.2]; rfl
        rw [leb] at this
        split at this <;> simp at this
      | cons c q =>
        simp at h
        exact leb_last f (n := n / 128) (by omega) (by omega) q b h.2
theorem leb_val : ∀ (q : List Int) (b : Int), (∀ x ∈ q, 128 ≤ x ∧ x ≤ 255) → 0 ≤ b → b < 128 → b ≠ 0 → leb (val (q ++ [b])) = q ++ [b]
  | [], b, _, h0, h1, _ => by
    have : val [b] = b := by simp [val]; omega
    rw [List.nil_append, this, leb_one (by omega)]
  | c :: q, b, hq, h0, h1, hb => by
    have ih := leb_val q b (fun x hx => hq x (by simp [hx])) h0 h1 hb
    have hc := hq c (by simp)
    have hv : 0 < val (q ++ [b]) := by
      have h2 := val_nonneg (q ++ [b])
      by_cases e : val (q ++ [b]) = 0
      · rw [e, leb_one (by omega)] at ih
        cases q with
        | nil => simp at ih; omega
        | cons d q => simp at ih
      · omega
    rw [List.cons_append, val, leb_more (by omega)]
    have e1 : (c % 128 + 128 * val (q ++ [b])) % 128 + 128 = c := by omega
    have e2 : (c % 128 + 128 * val (q ++ [b])) / 128 = val (q ++ [b]) := by omega
    rw [e1, e2, ih]
theorem leb_canon {q : List Int} {b : Int} (hq : ∀ x ∈ q, 128 ≤ x ∧ x ≤ 255) (h0 : 0 ≤ b) (h1 : b < 128) : leb (val (q ++ [b])) = q ++ [b] ↔ q = [] ∨ b ≠ 0 := by
  constructor
  · intro h
    by_cases hb : b = 0
    · left
      by_cases hv : val (q ++ [b]) = 0
      · rw [hv, leb_one (by omega)] at h
        cases q with
        | nil => rfl
        | cons d q => simp at h
      · exact absurd hb (leb_last _ (Nat.le_refl _) (by have := val_nonneg (q ++ [b]); omega) q b h)
    · exact .inr hb
  · rintro (rfl | hb)
    · have : val [b] = b := by simp [val]; omega
      rw [List.nil_append, this, leb_one (by omega)]
    · exact leb_val q b hq h0 h1 hb
def getLeb (s : ByteArray) : Option (Int × Nat) :=
  match pref 9 (byt s) with
  | none => none
  | some m => if strOfNums (leb (val ((byt s).take m))) = s.extract 0 m then some (val ((byt s).take m), m) else none
/-- the value of a signed encoding: the last byte's bit 6 is the sign, if there is room -/
def svalAt (l : List Int) (m : Nat) : Int :=
  if m ≤ 9 ∧ 64 ≤ (l[m - 1]?.getD 0) then val (l.take m) - 128 ^ m else wrap64 (val (l.take m))
def getSleb (s : ByteArray) : Option (Int × Nat) :=
  match pref 10 (byt s) with
  | none => none
  | some m => if strOfNums (sleb (svalAt (byt s) m)) = s.extract 0 m then some (svalAt (byt s) m, m) else none
def getRes (o : Option (Int × Nat)) : Ending := match o with
  | none => .returned (.tuple #[.int .i64 0, .int .i64 0, .bool false])
  | some (n, m) => .returned (.tuple #[.int .i64 n, .int .i64 m, .bool true])

/-! ### the bits -/
theorem pow128 (k : Nat) : (128 : Int) ^ k = 2 ^ (7 * k) := by
  rw [Int.pow_mul]; rfl
theorem or_step {k : Nat} (hk : k ≤ 9) {n x : Int} (h0 : 0 ≤ n) (h1 : n < 128 ^ k) : bits .or .i64 n (IntKind.i64.wrap (x * 128 ^ k)) = IntKind.i64.wrap (n + x * 128 ^ k) := by
  have hp : (128 : Int) ^ k ≤ 128 ^ 9 := by exact_mod_cast Nat.pow_le_pow_right (show 0 < 128 by decide) hk
  have h64 : n < 18446744073709551616 := by
    have : (128 : Int) ^ 9 = 9223372036854775808 := by decide
    omega
  have hm : (x * 128 ^ k) % 2 ^ (7 * k) = 0 := by rw [← pow128]; exact Int.mul_emod_left _ _
  rw [or_join (j := 7 * k) (by omega) h0 (by rw [← pow128]; exact h1) h64 (wrap_dvd (by omega) hm)]
  rw [IntKind.wrap_i64, IntKind.wrap_i64, IntKind.wrap_i64]
  omega
theorem and127 {b : Nat} (hb : b < 256) : bits .and .u8 (b : Int) 127 = (b : Int) % 128 := bits_mask .u8 8 (by decide) wraps_u8 7 (by decide) b (by omega) (by omega)
theorem leb_bits {k b : Nat} (hk : k ≤ 9) (hb : b < 256) {v : Int} (h0 : 0 ≤ v) (h1 : v < 128 ^ k) :
    bits .or .i64 v (wrap64 (wrap64 (bits .and .u8 (b : Int) 127) * 2 ^ (7 * k))) = wrap64 (v + (b : Int) % 128 * 128 ^ k) := by
  rw [and127 hb, wrap64_id (n := (b : Int) % 128) (by omega) (by omega), ← pow128]
  have := or_step hk (x := (b : Int) % 128) h0 h1
  rw [i64_wrap64, i64_wrap64] at this
  exact this
theorem pow9 {k : Nat} (hk : k ≤ 9) : (128 : Int) ^ k ≤ 9223372036854775808 := by
  have : (128 : Int) ^ k ≤ 128 ^ 9 := by exact_mod_cast Nat.pow_le_pow_right (show 0 < 128 by decide) hk
  have e : (128 : Int) ^ 9 = 9223372036854775808 := by decide
  omega
theorem val_step {l : List Int} {k : Nat} {b : Nat} (h : l[k]? = some (b : Int)) : 0 ≤ val (l.take k) ∧ val (l.take k) < 128 ^ k ∧ val (l.take (k + 1)) < 128 ^ (k + 1) := by
  have hk := (List.getElem?_eq_some_iff.1 h).1
  refine ⟨val_nonneg _, ?_, ?_⟩
  · have := val_lt (l.take k)
    rwa [List.length_take, Nat.min_eq_left (Nat.le_of_lt hk)] at this
  · have := val_lt (l.take (k + 1))
    rwa [List.length_take, Nat.min_eq_left hk] at this
theorem leb_bits8 {l : List Int} {k b : Nat} (hk : k ≤ 8) (hb : b < 256) (h : l[k]? = some (b : Int)) {v : Int} (hv : v = val (l.take k)) :
    bits .or .i64 v (wrap64 (wrap64 (bits .and .u8 (b : Int) 127) * 2 ^ (7 * k))) = val (l.take (k + 1)) := by
  obtain ⟨h0, h1, h2⟩ := val_step h
  rw [hv, leb_bits (by omega) hb h0 h1, ← val_take_succ h, wrap64_id]
  · have := val_nonneg (l.take (k + 1)); omega
  · have := pow9 (k := k + 1) (by omega); omega
theorem leb_bits9 {l : List Int} {k b : Nat} (hk : k ≤ 9) (hb : b < 256) (h : l[k]? = some (b : Int)) {v : Int} (hv : v = val (l.take k)) :
    bits .or .i64 v (wrap64 (wrap64 (bits .and .u8 (b : Int) 127) * 2 ^ (7 * k))) = wrap64 (val (l.take (k + 1))) := by
  obtain ⟨h0, h1, h2⟩ := val_step h
  rw [hv, leb_bits (by omega) hb h0 h1, ← val_take_succ h]
theorem u64_bits {k b : Nat} (hk : k ≤ 8) (hb : b < 256) {v : Int} (h0 : 0 ≤ v) (h1 : v < 128 ^ k) :
    bits .or .u64 v (IntKind.u64.wrap (IntKind.u64.wrap (bits .and .u8 (b : Int) 127) * 2 ^ (7 * k))) = v + (b : Int) % 128 * 128 ^ k := by
  have hp := pow9 (k := k) (by omega)
  have hq : (0 : Int) < 128 ^ k := Int.pow_pos (by decide)
  have hk8 : (128 : Int) ^ k * 128 ≤ 9223372036854775808 := by have := pow9 (k := k + 1) (by omega); rwa [Int.pow_succ] at this
  obtain ⟨p, hpd⟩ : ∃ p : Int, p = 128 ^ k := ⟨_, rfl⟩
  obtain ⟨y, hy⟩ : ∃ y : Int, y = (b : Int) % 128 := ⟨_, rfl⟩
  have hy0 : 0 ≤ y ∧ y ≤ 127 := by omega
  have hym : y * p ≤ 127 * p := Int.mul_le_mul_of_nonneg_right hy0.2 (by omega)
  have hy1 : 0 ≤ y * p := Int.mul_nonneg hy0.1 (by omega)
  rw [and127 hb, ← pow128, ← hy, ← hpd]
  rw [← hpd] at hp hq hk8 h1
  have e1 : IntKind.u64.wrap y = y := by rw [IntKind.wrap_u64]; omega
  have e2 : IntKind.u64.wrap (y * p) = y * p := by rw [IntKind.wrap_u64]; omega
  rw [e1, e2, u64_or v (y * p) h0 (by omega) hy1 (by omega), Nat.or_comm, nat_join (7 * k)]
  · omega
  · have : (((y * p).toNat % 2 ^ (7 * k) : Nat) : Int) = 0 := by
      rw [Int.natCast_emod, Int.toNat_of_nonneg hy1, hpd, pow128]
      have : ((2 ^ (7 * k) : Nat) : Int) = 2 ^ (7 * k) := by simp
      rw [this]
      exact Int.mul_emod_left _ _
    omega
  · have : ((v.toNat : Nat) : Int) < ((2 ^ (7 * k) : Nat) : Int) := by
      rw [Int.toNat_of_nonneg h0]
      have : ((2 ^ (7 * k) : Nat) : Int) = 2 ^ (7 * k) := by simp
      rw [this, ← pow128, ← hpd]; exact h1
    omega
theorem u64_bits8 {l : List Int} {k b : Nat} (hk : k ≤ 8) (hb : b < 256) (h : l[k]? = some (b : Int)) {v : Int} (hv : v = val (l.take k)) :
    bits .or .u64 v (IntKind.u64.wrap (IntKind.u64.wrap (bits .and .u8 (b : Int) 127) * 2 ^ (7 * k))) = val (l.take (k + 1)) := by
  obtain ⟨h0, h1, h2⟩ := val_step h
  rw [hv, u64_bits hk hb h0 h1, ← val_take_succ h]
theorem and64 {b : Nat} (hb : b < 128) : bits .and .u8 (b : Int) 64 = if 64 ≤ b then 64 else 0 := by
  have : ∀ b : Fin 128, bits .and .u8 ((b : Nat) : Int) 64 = if 64 ≤ (b : Nat) then 64 else 0 := by decide
  exact this ⟨b, hb⟩
theorem sign_bits {l : List Int} {k b : Nat} (hk : k ≤ 8) (h : l[k]? = some (b : Int)) {n : Int} (hn : n = wrap64 (val (l.take (k + 1)))) :
    bits .or .i64 n (wrap64 (-2 ^ (7 * (k + 1)))) = val (l.take (k + 1)) - 128 ^ (k + 1) := by
  obtain ⟨_, _, h2⟩ := val_step h
  have h0 := val_nonneg (l.take (k + 1))
  have hp := pow9 (k := k + 1) (by omega)
  rw [wrap64_id (by omega) (by omega)] at hn
  subst hn
  have hm : (-(2 : Int) ^ (7 * (k + 1))) % 2 ^ (7 * (k + 1)) = 0 := by rw [Int.neg_emod_self]
  have hw := wrap_dvd (j := 7 * (k + 1)) (by omega) hm
  rw [i64_wrap64] at hw
  rw [or_join (j := 7 * (k + 1)) (by omega) h0 (by rw [← pow128]; exact h2) (by omega) hw, IntKind.wrap_i64, wrap64, pow128]
  rw [pow128] at hp h2
  omega
theorem sval_sign {l : List Int} {k b : Nat} (hk : k ≤ 8) (h : l[k]? = some (b : Int)) (hb : 64 ≤ b) : svalAt l (k + 1) = val (l.take (k + 1)) - 128 ^ (k + 1) := by
  rw [svalAt, if_pos ⟨by omega, by rw [Nat.add_sub_cancel, h]; simp; omega⟩]
theorem sval_plain {l : List Int} {k b : Nat} (h : l[k]? = some (b : Int)) (hb : ¬ (k < 9 ∧ 64 ≤ b)) : svalAt l (k + 1) = wrap64 (val (l.take (k + 1))) := by
  rw [svalAt, if_neg]
  rintro ⟨h1, h2⟩
  rw [Nat.add_sub_cancel, h] at h2
  simp at h2
  exact hb ⟨by omega, by omega⟩
theorem sval_wf (l : List Int) (m : Nat) (hm : m ≤ l.length) : (Lit.int .i64 (svalAt l m)).wf = true := by
  rw [svalAt]
  split
  · rename_i h
    have h0 := val_nonneg (l.take m)
    have h1 := val_lt (l.take m)
    rw [List.length_take, Nat.min_eq_left hm] at h1
    have h2 := pow9 (k := m) h.1
    obtain ⟨p, hp⟩ : ∃ p : Int, p = 128 ^ m := ⟨_, rfl⟩
    have h3 : (0 : Int) < 128 ^ m := Int.pow_pos (by decide)
    rw [← hp] at h1 h2 h3 ⊢
    have : -9223372036854775808 ≤ val (l.take m) - p ∧ val (l.take m) - p ≤ 9223372036854775807 := ⟨by omega, by omega⟩
    simpa [Lit.wf, IntKind.min, IntKind.max, IntKind.signed, IntKind.bits] using this
  · exact wrap64_wf _
/-- the last byte of a prefix: the encoding is the shortest -/
theorem leb_short {s : ByteArray} {k b : Nat} (hp : ∀ (j : Nat) (x : Int), j < k → (byt s)[j]? = some x → 128 ≤ x) (h : (byt s)[k]? = some (b : Int)) (hb : b < 128) :
    strOfNums (leb (val ((byt s).take (k + 1)))) = s.extract 0 (k + 1) ↔ k = 0 ∨ b ≠ 0 := by
  have hk := (List.getElem?_eq_some_iff.1 h).1
  have e : (byt s).take (k + 1) = (byt s).take k ++ [(b : Int)] := by rw [List.take_add_one, h]; rfl
  rw [str_take (leb_mem _ (Nat.le_refl _) (val_nonneg _)), e, leb_canon (fun x hx => ?_) (by omega) (by omega)]
  · constructor
    · rintro (h1 | h1)
      · left
        have : ((byt s).take k).length = 0 := by rw [h1]; rfl
        rw [List.length_take, Nat.min_eq_left (Nat.le_of_lt hk)] at this
        exact this
      · right; omega
    · rintro (rfl | h1)
      · left; simp
      · right; omega
  · obtain ⟨j, hj, rfl⟩ := List.getElem_of_mem hx
    rw [List.length_take] at hj
    rw [List.getElem_take]
    have hg : (byt s)[j]? = some (byt s)[j] := List.getElem?_eq_getElem (by omega)
    exact ⟨hp j _ (by omega) hg, (byt_mem (List.getElem_mem _)).2⟩
end Go.Proofs.Ytlkfaednolmfkaa

