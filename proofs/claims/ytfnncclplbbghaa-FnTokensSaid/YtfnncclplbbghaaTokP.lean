/-
  Tokens: the plain law: what is a token; the texts of tokens, joined with spaces, give the same tokens.
-/
import Derived.Test.YtfnncclplbbghaaBase
import Derived.Test.YtfnncclplbbghaaByt
import Derived.Test.YtfnncclplbbghaaTy
namespace Go.Proofs.Ytfnncclplbbghaa
open Go.RowKit
set_option linter.unusedVariables false
set_option linter.unusedSimpArgs false
set_option linter.unnecessarySimpa false

def isL (c : Int) : Bool := decide (97 ≤ c) && decide (c ≤ 122)
def isD (c : Int) : Bool := decide (48 ≤ c) && decide (c ≤ 57)
def signs : List Int := [123, 125, 40, 41, 60, 62, 44, 59, 58, 61, 46, 47, 64, 95]
def isS (c : Int) : Bool := signs.contains c
def hdP (p : Int → Bool) : List Int → Bool
  | [] => false
  | c :: _ => p c
def isLD (c : Int) : Bool := isL c || isD c
/-- the length of a word; of a number -/
def wordN : List Int → Nat
  | [] => 0
  | c :: r => if isLD c || (decide (c = 45) && hdP isLD r) then wordN r + 1 else 0
def numN : List Int → Nat
  | [] => 0
  | c :: r => if isD c || (decide (c = 46) && hdP isD r) then numN r + 1 else 0
/-- white space and comments: how many bytes, how many lines; true: within a comment -/
def skipM : Bool → List Int → Nat × Nat
  | _, [] => (0, 0)
  | true, c :: r => if c = 10 then ((skipM false r).1 + 1, (skipM false r).2 + 1) else ((skipM true r).1 + 1, (skipM true r).2)
  | false, c :: r => if c = 10 then ((skipM false r).1 + 1, (skipM false r).2 + 1) else if c = 32 then ((skipM false r).1 + 1, (skipM false r).2) else
      if (decide (c = 47) && hdP (fun x => decide (x = 47)) r) then ((skipM true r).1 + 1, (skipM true r).2) else (0, 0)
/-- kind and length of the token at the head -/
def lexN : List Int → Option (Int × Nat)
  | [] => none
  | c :: r => if isL c then some (1, wordN (c :: r)) else if isD c then some (2, numN (c :: r)) else if (decide (c = 45) && hdP (fun x => decide (x = 62)) r) then some (3, 2) else if isS c then some (3, 1) else none
/-- the tokens from a place on that is no white space: the list, the line of an error, the code -/
def toks : Nat → List Int → Nat → Nat → List Token × Int × Int
  | _, [], line, _ => ([⟨4, ⟨#[]⟩, line⟩], 0, 0)
  | 0, _ :: _, _, _ => ([], 0, 6)
  | f + 1, c :: r, line, k => match lexN (c :: r) with
    | none => ([], line, 6)
    | some (kd, n) => if k = 4000 then ([], line, 4) else
      match toks f (((c :: r).drop n).drop (skipM false ((c :: r).drop n)).1) (line + (skipM false ((c :: r).drop n)).2) (k + 1) with
      | (L, ln, code) => if code = 0 then (⟨kd, strOfNums ((c :: r).take n), line⟩ :: L, 0, 0) else ([], ln, code)
def tokP (s : ByteArray) : List Token × Int × Int :=
  if 30000 < s.size then ([], 0, 4) else toks s.size ((byt s).drop (skipM false (byt s)).1) (1 + (skipM false (byt s)).2) 0

theorem hdP_app {p : Int → Bool} {a b : List Int} (h : hdP p a = true) : hdP p (a ++ b) = true := by
  cases a with
  | nil => cases h
  | cons c r => exact h
theorem wordN_le : ∀ l : List Int, wordN l ≤ l.length
  | [] => Nat.le_refl _
  | c :: r => by rw [wordN]; have := wordN_le r; split <;> simp; omega
theorem numN_le : ∀ l : List Int, numN l ≤ l.length
  | [] => Nat.le_refl _
  | c :: r => by rw [numN]; have := numN_le r; split <;> simp; omega
/-- no word goes on over X -/
def Stop (X : List Int) : Prop := X = [] ∨ ∃ Y, X = 32 :: Y
theorem Stop.hd {X : List Int} (h : Stop X) {p : Int → Bool} (hp : p 32 = false) : hdP p X = false := by
  rcases h with rfl | ⟨Y, rfl⟩
  · rfl
  · exact hp
theorem hdP_take {p q : Int → Bool} {r : List Int} {n : Nat} {X : List Int} (h : hdP p r = true) (hn : 1 ≤ n) : hdP p (r.take n ++ X) = true := by
  cases r with
  | nil => cases h
  | cons c r =>
    obtain ⟨m, rfl⟩ : ∃ m, n = m + 1 := ⟨n - 1, by omega⟩
    exact h
theorem wordN_pos {c : Int} {r : List Int} (h : isLD c = true) : wordN (c :: r) = wordN r + 1 := by rw [wordN, h]; rfl
theorem numN_pos {c : Int} {r : List Int} (h : isD c = true) : numN (c :: r) = numN r + 1 := by rw [numN, h]; rfl
theorem word_hd {r : List Int} (h : hdP isLD r = true) : 1 ≤ wordN r := by
  cases r with
  | nil => cases h
  | cons c r => rw [wordN_pos h]; omega
theorem num_hd {r : List Int} (h : hdP isD r = true) : 1 ≤ numN r := by
  cases r with
  | nil => cases h
  | cons c r => rw [numN_pos h]; omega
theorem word_stop {X : List Int} (h : Stop X) : wordN X = 0 := by
  rcases h with rfl | ⟨Y, rfl⟩
  · rfl
  · rw [wordN]; rfl
theorem num_stop {X : List Int} (h : Stop X) : numN X = 0 := by
  rcases h with rfl | ⟨Y, rfl⟩
  · rfl
  · rw [numN]; rfl
theorem word_cut {X : List Int} (hX : Stop X) : ∀ l : List Int, wordN (l.take (wordN l) ++ X) = wordN l
  | [] => word_stop hX
  | c :: r => by
    have ih := word_cut hX r
    by_cases h : (isLD c || (decide (c = 45) && hdP isLD r)) = true
    · have e : wordN (c :: r) = wordN r + 1 := by rw [wordN, if_pos h]
      rw [e, List.take_succ_cons, List.cons_append, wordN, ih, if_pos]
      rw [Bool.or_eq_true, Bool.and_eq_true] at h ⊢
      rcases h with h | ⟨h1, h2⟩
      · exact .inl h
      · exact .inr ⟨h1, hdP_take (q := isD) h2 (word_hd h2)⟩
    · have e : wordN (c :: r) = 0 := by rw [wordN, if_neg h]
      rw [e, List.take_zero, List.nil_append, word_stop hX]
theorem num_cut {X : List Int} (hX : Stop X) : ∀ l : List Int, numN (l.take (numN l) ++ X) = numN l
  | [] => num_stop hX
  | c :: r => by
    have ih := num_cut hX r
    by_cases h : (isD c || (decide (c = 46) && hdP isD r)) = true
    · have e : numN (c :: r) = numN r + 1 := by rw [numN, if_pos h]
      rw [e, List.take_succ_cons, List.cons_append, numN, ih, if_pos]
      rw [Bool.or_eq_true, Bool.and_eq_true] at h ⊢
      rcases h with h | ⟨h1, h2⟩
      · exact .inl h
      · exact .inr ⟨h1, hdP_take (q := isD) h2 (num_hd h2)⟩
    · have e : numN (c :: r) = 0 := by rw [numN, if_neg h]
      rw [e, List.take_zero, List.nil_append, num_stop hX]
theorem skip_no {c : Int} {r : List Int} (h1 : c ≠ 10) (h2 : c ≠ 32) (h3 : c = 47 → hdP (fun x => decide (x = 47)) r = false) : skipM false (c :: r) = (0, 0) := by
  rw [skipM, if_neg h1, if_neg h2, if_neg]
  intro h
  rw [Bool.and_eq_true, decide_eq_true_eq] at h
  rw [h3 h.1] at h
  cases h.2
/-- a token's text, whatever stands behind it -/
def Good (kd : Int) (t : List Int) : Prop := kd ≠ 4 ∧ 1 ≤ t.length ∧ ∀ X, Stop X → lexN (t ++ X) = some (kd, t.length) ∧ skipM false (t ++ X) = (0, 0)
theorem isL_rng {c : Int} (h : isL c = true) : 97 ≤ c ∧ c ≤ 122 := by
  rw [isL, Bool.and_eq_true, decide_eq_true_eq, decide_eq_true_eq] at h; exact h
theorem isD_rng {c : Int} (h : isD c = true) : 48 ≤ c ∧ c ≤ 57 := by
  rw [isD, Bool.and_eq_true, decide_eq_true_eq, decide_eq_true_eq] at h; exact h
theorem lex_good {l : List Int} {kd : Int} {n : Nat} (h : lexN l = some (kd, n)) : 1 ≤ n ∧ n ≤ l.length ∧ Good kd (l.take n) := by
  cases l with
  | nil => cases h
  | cons c r =>
    rw [lexN] at h
    by_cases hL : isL c = true
    · rw [if_pos hL] at h
      injection h with h; injection h with h1 h2
      have hld : isLD c = true := by rw [isLD, hL]; rfl
      have hp := wordN_pos (r := r) hld
      have hle := wordN_le (c :: r)
      subst h1 h2
      refine ⟨by omega, hle, by decide, by rw [List.length_take]; omega, fun X hX => ?_⟩
      have hl : ((c :: r).take (wordN (c :: r))).length = wordN (c :: r) := by rw [List.length_take]; omega
      have hw := word_cut hX (c :: r)
      rw [hl]
      rw [hp, List.take_succ_cons, List.cons_append] at hw ⊢
      refine ⟨by rw [lexN, if_pos hL, hw], skip_no (by have := isL_rng hL; omega) (by have := isL_rng hL; omega) (fun e => by have := isL_rng hL; omega)⟩
    · rw [if_neg hL] at h
      by_cases hD : isD c = true
      · rw [if_pos hD] at h
        injection h with h; injection h with h1 h2
        have hp := numN_pos (r := r) hD
        have hle := numN_le (c :: r)
        subst h1 h2
        refine ⟨by omega, hle, by decide, by rw [List.length_take]; omega, fun X hX => ?_⟩
        have hl : ((c :: r).take (numN (c :: r))).length = numN (c :: r) := by rw [List.length_take]; omega
        have hw := num_cut hX (c :: r)
        rw [hl]
        rw [hp, List.take_succ_cons, List.cons_append] at hw ⊢
        refine ⟨by rw [lexN, if_neg hL, if_pos hD, hw], skip_no (by have := isD_rng hD; omega) (by have := isD_rng hD; omega) (fun e => by have := isD_rng hD; omega)⟩
      · rw [if_neg hD] at h
        by_cases hA : (decide (c = 45) && hdP (fun x => decide (x = 62)) r) = true
        · rw [if_pos hA] at h
          injection h with h; injection h with h1 h2
          subst h1 h2
          rw [Bool.and_eq_true, decide_eq_true_eq] at hA
          obtain ⟨rfl, hA⟩ := hA
          cases r with
          | nil => cases hA
          | cons d r =>
            have hd : d = 62 := by simpa [hdP] using hA
            subst hd
            refine ⟨by omega, by simp, by decide, by simp, fun X hX => ⟨rfl, ?_⟩⟩
            exact skip_no (by decide) (by decide) (fun e => by cases e)
        · rw [if_neg hA] at h
          by_cases hS : isS c = true
          · rw [if_pos hS] at h
            injection h with h; injection h with h1 h2
            subst h1 h2
            have hc : c ∈ signs := by simpa [isS] using hS
            have h45 : c ≠ 45 ∧ c ≠ 10 ∧ c ≠ 32 := by simp [signs] at hc; omega
            refine ⟨by omega, by simp, by decide, by simp, fun X hX => ⟨?_, ?_⟩⟩
            · show lexN (c :: X) = some (3, 1)
              rw [lexN, if_neg hL, if_neg hD, if_neg, if_pos hS]
              rw [Bool.and_eq_true, decide_eq_true_eq]
              exact fun e => h45.1 e.1
            · exact skip_no h45.2.1 h45.2.2 (fun e => hX.hd (by decide))
          · rw [if_neg hS] at h
            cases h
/-- texts with a space between two -/
def joinT : List (List Int) → List Int
  | [] => []
  | [t] => t
  | t :: u :: ts => t ++ 32 :: joinT (u :: ts)
abbrev Tk := Int × List Int × Nat
def Tk.tok (t : Tk) : Token := ⟨t.1, strOfNums t.2.1, t.2.2⟩
def endT (n : Nat) : Token := ⟨4, ⟨#[]⟩, n⟩
structure TG (line k : Nat) (l : List Int) (ts : List Tk) (last : Nat) : Prop where
  good : ∀ t ∈ ts, Good t.1 t.2.1
  byte : ∀ t ∈ ts, ∀ x ∈ t.2.1, 0 ≤ x ∧ x ≤ 255
  many : k + ts.length ≤ 4000
  size : (ts.map fun t => t.2.1.length).sum ≤ l.length
  low : ∀ t ∈ ts, line ≤ t.2.2
  lowl : line ≤ last
  rise : (ts.map fun t => t.2.2).Pairwise (· ≤ ·)
  top : ∀ t ∈ ts, t.2.2 ≤ last
theorem toks_nil (f line k : Nat) : toks f [] line k = ([endT line], 0, 0) := by cases f <;> rfl
theorem toks_good : ∀ (f : Nat) (l : List Int) (line k : Nat) (L : List Token) (ln : Int), toks f l line k = (L, ln, 0) → k ≤ 4000 → (∀ x ∈ l, 0 ≤ x ∧ x ≤ 255) → ∃ ts last, L = ts.map Tk.tok ++ [endT last] ∧ ln = 0 ∧ TG line k l ts last
  | f, [], line, k, L, ln, h, hk, hb => by
    rw [toks_nil] at h
    injection h with h1 h2
    injection h2 with h2 h3
    exact ⟨[], line, h1.symm, h2.symm, by simp, by simp, by simpa using hk, by simp, by simp, Nat.le_refl _, by simp, by simp⟩
  | 0, c :: r, line, k, L, ln, h, hk, hb => by rw [toks] at h; injection h with h1 h2; injection h2 with h2 h3; cases h3
  | f + 1, c :: r, line, k, L, ln, h, hk, hb => by
    rw [toks] at h
    cases hx : lexN (c :: r) with
    | none => rw [hx] at h; injection h with h1 h2; injection h2 with h2 h3; cases h3
    | some p =>
      obtain ⟨kd, n⟩ := p
      rw [hx] at h
      simp only at h
      by_cases hk4 : k = 4000
      · rw [if_pos hk4] at h; injection h with h1 h2; injection h2 with h2 h3; cases h3
      · rw [if_neg hk4] at h
        obtain ⟨g1, g2, g3⟩ := lex_good hx
        cases hq : toks f (((c :: r).drop n).drop (skipM false ((c :: r).drop n)).1) (line + (skipM false ((c :: r).drop n)).2) (k + 1) with
        | mk L2 q =>
          obtain ⟨ln2, code⟩ := q
          rw [hq] at h
          simp only at h
          by_cases hc : code = 0
          · rw [if_pos hc] at h
            injection h with h1 h2
            injection h2 with h2 h3
            subst hc
            obtain ⟨ts, last, e1, e2, G⟩ := toks_good f _ _ _ _ _ hq (by omega) (fun x hx => hb x (List.mem_of_mem_drop (List.mem_of_mem_drop hx)))
            refine ⟨(kd, (c :: r).take n, line) :: ts, last, ?_, h2.symm, ?_⟩
            · rw [← h1, e1]; rfl
            · have hsz := G.size
              have hm := G.many
              have hlow := G.lowl
              refine ⟨?_, ?_, by simp; omega, ?_, ?_, by omega, ?_, ?_⟩
              · intro t ht
                rcases List.mem_cons.1 ht with rfl | ht
                · exact g3
                · exact G.good t ht
              · intro t ht x hx
                rcases List.mem_cons.1 ht with rfl | ht
                · exact hb x (List.mem_of_mem_take hx)
                · exact G.byte t ht x hx
              · rw [List.map_cons, List.sum_cons]
                have e : ((c :: r).take n).length = n := by rw [List.length_take]; omega
                rw [List.length_drop, List.length_drop] at hsz
                show ((c :: r).take n).length + _ ≤ _
                omega
              · intro t ht
                rcases List.mem_cons.1 ht with rfl | ht
                · exact Nat.le_refl _
                · have := G.low t ht; omega
              · rw [List.map_cons, List.pairwise_cons]
                refine ⟨fun x hx => ?_, G.rise⟩
                obtain ⟨t, ht, rfl⟩ := List.mem_map.1 hx
                have := G.low t ht
                show line ≤ _
                omega
              · intro t ht
                rcases List.mem_cons.1 ht with rfl | ht
                · show line ≤ last; omega
                · exact G.top t ht
          · rw [if_neg hc] at h
            injection h with h1 h2; injection h2 with h2 h3
            exact absurd h3 hc
theorem joinT_cons (t : List Int) (ts : List (List Int)) : ∃ X, Stop X ∧ joinT (t :: ts) = t ++ X := by
  cases ts with
  | nil => exact ⟨[], .inl rfl, by rw [joinT, List.append_nil]⟩
  | cons u ts => exact ⟨32 :: joinT (u :: ts), .inr ⟨_, rfl⟩, rfl⟩
theorem joinT_len : ∀ ts : List (List Int), (joinT ts).length ≤ (ts.map List.length).sum + ts.length
  | [] => by simp [joinT]
  | [t] => by simp [joinT]
  | t :: u :: ts => by
    have := joinT_len (u :: ts)
    rw [joinT]
    simp only [List.length_append, List.length_cons, List.map_cons, List.sum_cons] at this ⊢
    omega
theorem joinT_many : ∀ ts : List (List Int), (∀ t ∈ ts, 1 ≤ t.length) → ts.length ≤ (joinT ts).length
  | [], _ => by simp
  | [t], h => by have := h t (by simp); simpa [joinT] using this
  | t :: u :: ts, h => by
    have := joinT_many (u :: ts) (fun x hx => h x (by simp [hx]))
    rw [joinT]
    simp only [List.length_append, List.length_cons] at this ⊢
    omega
theorem joinT_byte : ∀ ts : List (List Int), (∀ t ∈ ts, ∀ x ∈ t, 0 ≤ x ∧ x ≤ 255) → ∀ x ∈ joinT ts, 0 ≤ x ∧ x ≤ 255
  | [], _, x, hx => by simp [joinT] at hx
  | [t], h, x, hx => h t (by simp) x hx
  | t :: u :: ts, h, x, hx => by
    rw [joinT] at hx
    rcases List.mem_append.1 hx with hx | hx
    · exact h t (by simp) x hx
    · rcases List.mem_cons.1 hx with rfl | hx
      · omega
      · exact joinT_byte (u :: ts) (fun y hy => h y (by simp [hy])) x hx
/-- the texts, joined, are read as the same tokens -/
theorem relex : ∀ (ts : List Tk) (f line k : Nat), (∀ t ∈ ts, Good t.1 t.2.1) → ts.length ≤ f → k + ts.length ≤ 4000 →
    toks f (joinT (ts.map fun t => t.2.1)) line k = (ts.map (fun t => Tk.tok (t.1, t.2.1, line)) ++ [endT line], 0, 0)
  | [], f, line, k, _, _, _ => toks_nil f line k
  | (kd, t, q) :: ts, f, line, k, hg, hf, hk => by
    obtain ⟨f, rfl⟩ : ∃ g, f = g + 1 := ⟨f - 1, by simp at hf; omega⟩
    have g0 := hg (kd, t, q) (by simp)
    obtain ⟨_, hl, hX⟩ := g0
    simp only at hl hX
    have ih := relex ts f line (k + 1) (fun x hx => hg x (by simp [hx])) (by simp at hf; omega) (by simp at hk; omega)
    obtain ⟨X, hX0, he⟩ := joinT_cons t (ts.map fun t => t.2.1)
    rw [List.map_cons]
    show toks (f + 1) (joinT (t :: ts.map fun t => t.2.1)) line k = _
    have hx := hX X hX0
    rw [← he] at hx
    have hdrop : (joinT (t :: ts.map fun t => t.2.1)).drop t.length = X := by rw [he, List.drop_left' rfl]
    have htake : (joinT (t :: ts.map fun t => t.2.1)).take t.length = t := by rw [he, List.take_left' rfl]
    have hsk : X.drop (skipM false X).1 = joinT (ts.map fun t => t.2.1) ∧ (skipM false X).2 = 0 := by
      cases ts with
      | nil =>
        have : X = [] := by rw [List.map_nil, joinT] at he; simpa using he
        subst this
        exact ⟨rfl, rfl⟩
      | cons u ts =>
        have : X = 32 :: joinT ((u :: ts).map fun t => t.2.1) := by
          rw [List.map_cons, joinT] at he
          exact (List.append_cancel_left he).symm
        subst this
        obtain ⟨Y, hY0, hY⟩ := joinT_cons u.2.1 (ts.map fun t => t.2.1)
        have h2 := ((hg u (by simp)).2.2 Y hY0).2
        rw [← hY] at h2
        have h3 : skipM false (32 :: joinT ((u :: ts).map fun t => t.2.1)) = (1, 0) := by
          rw [skipM, if_neg (by decide), if_pos rfl]
          show ((skipM false (joinT (u.2.1 :: ts.map fun t => t.2.1))).1 + 1, (skipM false (joinT (u.2.1 :: ts.map fun t => t.2.1))).2) = _
          rw [h2]
        rw [h3]
        exact ⟨rfl, rfl⟩
    obtain ⟨J, hJ⟩ : ∃ J, J = joinT (t :: ts.map fun t => t.2.1) := ⟨_, rfl⟩
    rw [← hJ] at hx hdrop htake ⊢
    cases J with
    | nil => rw [List.drop_nil] at hdrop; have := congrArg List.length hJ; rw [he] at this; simp at this; omega
    | cons c r =>
      rw [toks, hx.1]
      simp only
      rw [if_neg (by simp at hk; omega), hdrop, htake, hsk.1, hsk.2, Nat.add_zero, ih]
      rfl
theorem tokP_good {s : ByteArray} {L : List Token} {ln : Int} (h : tokP s = (L, ln, 0)) : ∃ ts last, L = ts.map Tk.tok ++ [endT last] ∧ ln = 0 ∧ TG 1 0 (byt s) ts last := by
  rw [tokP] at h
  split at h
  · injection h with h1 h2; injection h2 with h2 h3; cases h3
  · obtain ⟨ts, last, e1, e2, G⟩ := toks_good _ _ _ _ _ _ h (by omega) (fun x hx => byt_mem (List.mem_of_mem_drop hx))
    refine ⟨ts, last, e1, e2, G.good, G.byte, G.many, ?_, fun t ht => by have := G.low t ht; omega, by have := G.lowl; omega, G.rise, G.top⟩
    have := G.size
    rw [List.length_drop] at this
    omega
/-- the law: the joined texts give the same kinds and texts -/
theorem tokP_again {s : ByteArray} {ts : List Tk} {last : Nat} (G : TG 1 0 (byt s) ts last) (hs : s.size ≤ 15000) :
    tokP (strOfNums (joinT (ts.map fun t => t.2.1))) = (ts.map (fun t => Tk.tok (t.1, t.2.1, 1)) ++ [endT 1], 0, 0) := by
  have hb := joinT_byte (ts.map fun t => t.2.1) (fun t ht => by obtain ⟨u, hu, rfl⟩ := List.mem_map.1 ht; exact G.byte u hu)
  have h1 : ∀ t ∈ ts.map (fun t : Tk => t.2.1), 1 ≤ t.length := fun t ht => by obtain ⟨u, hu, rfl⟩ := List.mem_map.1 ht; exact (G.good u hu).2.1
  have hlen := joinT_len (ts.map fun t => t.2.1)
  have hmany := joinT_many (ts.map fun t => t.2.1) h1
  have hsz := G.size
  rw [byt_length] at hsz
  rw [List.map_map] at hlen
  have hsum : (ts.map (List.length ∘ fun t : Tk => t.2.1)).sum = (ts.map fun t => t.2.1.length).sum := rfl
  have hcount : ts.length ≤ (ts.map fun t : Tk => t.2.1.length).sum := by
    have : ∀ us : List Tk, (∀ t ∈ us, 1 ≤ t.2.1.length) → us.length ≤ (us.map fun t : Tk => t.2.1.length).sum := by
      intro us
      induction us with
      | nil => intro _; simp
      | cons u us ih => intro h; have := ih (fun t ht => h t (by simp [ht])); have := h u (by simp); simp only [List.length_cons, List.map_cons, List.sum_cons]; omega
    exact this ts fun t ht => (G.good t ht).2.1
  rw [hsum, List.length_map] at hlen
  rw [List.length_map] at hmany
  have hS : (strOfNums (joinT (ts.map fun t => t.2.1))).size = (joinT (ts.map fun t => t.2.1)).length := strOfNums_size _
  have hsk : skipM false (joinT (ts.map fun t => t.2.1)) = (0, 0) := by
    cases ts with
    | nil => rfl
    | cons u ts =>
      obtain ⟨X, hX, he⟩ := joinT_cons u.2.1 (ts.map fun t => t.2.1)
      have := ((G.good u (by simp)).2.2 X hX).2
      rw [← he] at this
      exact this
  rw [tokP, if_neg (by omega), byt_strOfNums hb, hsk]
  show toks _ (joinT (ts.map fun t => t.2.1)) (1 + 0) 0 = _
  exact relex ts _ 1 0 G.good (by omega) G.many
/-- no token begins with a zero byte -/
theorem tokP_zero {s : ByteArray} {r : List Int} (h : byt s = 0 :: r) : (tokP s).2.2 ≠ 0 ∧ (tokP s).1 = [] := by
  rw [tokP]
  split
  · exact ⟨by decide, rfl⟩
  · have hsk : skipM false (byt s) = (0, 0) := by rw [h]; exact skip_no (by decide) (by decide) (fun e => by cases e)
    rw [hsk, h]
    show (toks s.size (0 :: r) _ 0).2.2 ≠ 0 ∧ (toks s.size (0 :: r) _ 0).1 = []
    have hlx : lexN (0 :: r) = none := by
      rw [lexN, if_neg (by decide), if_neg (by decide), if_neg, if_neg (by decide)]
      simp
    cases hs : s.size with
    | zero => exact ⟨by show (6 : Int) ≠ 0; decide, rfl⟩
    | succ f => rw [toks, hlx]; exact ⟨by show (6 : Int) ≠ 0; decide, rfl⟩
end Go.Proofs.Ytfnncclplbbghaa

