/-
  Tokens: spec.l05Tokens, spec.Tokens.
-/
import Derived.Test.YtfnncclplbbghaaTokL
import Derived.Test.YtfnncclplbbghaaGrw
namespace Go.Proofs.Ytfnncclplbbghaa
open Go.RowKit
set_option linter.unusedVariables false
set_option linter.unusedSimpArgs false
set_option linter.unnecessarySimpa false
set_option maxRecDepth 16000

def tkC (t : Token) : List Value := [.int .i64 t.kind, .string t.text, .int .i64 t.line]
def tkV (l : List Token) : List Value := l.flatMap tkC
theorem tkV_append (a b : List Token) : tkV (a ++ b) = tkV a ++ tkV b := List.flatMap_append
theorem tkV_len : ∀ l : List Token, (tkV l).length = l.length * 3
  | [] => rfl
  | t :: l => by
    have := tkV_len l
    show (tkC t ++ tkV l).length = _
    rw [List.length_append, this, List.length_cons]
    show 3 + _ = _
    omega
theorem one_tk (l : List Token) : ∀ u ∈ tkV l, u.oneCell' = true := by
  intro u hu
  obtain ⟨t, _, ht⟩ := List.mem_flatMap.1 hu
  simp only [tkC, List.mem_cons, List.mem_nil_iff, or_false] at ht
  rcases ht with rfl | rfl | rfl <;> rfl
theorem tok_info : (Try.prog.info? 30).map (fun i => (i.zero, i.size, i.bytes)) = some (some (.agg #[.int .i64 0, .string ⟨#[]⟩, .int .i64 0]), 3, 32) := by kernel_rfl
theorem news_tk (w : World) (t : Token) : ∀ (j : Nat) (u : Value), (tkV [t])[j]? = some u → (w.alloc (.cells #[.int .i64 t.kind, .string t.text, .int .i64 t.line] 30)).cell? ((⟨w.heap.size, 0, none⟩ : Addr).add j) = some u := World.news_of_block (heap_alloc_new w _)
theorem skip_lines : ∀ (b : Bool) (l : List Int), (skipM b l).2 ≤ (skipM b l).1
  | b, [] => by cases b <;> simp [skipM]
  | true, c :: r => by
    have h1 := skip_lines false r
    have h2 := skip_lines true r
    rw [skipM]
    split <;> dsimp only <;> omega
  | false, c :: r => by
    have h1 := skip_lines false r
    have h2 := skip_lines true r
    rw [skipM]
    split
    · dsimp only; omega
    · split
      · dsimp only; omega
      · split
        · dsimp only; omega
        · dsimp only; omega
theorem lex_rng {l : List Int} {kd : Int} {n : Nat} (h : lexN l = some (kd, n)) : 1 ≤ n ∧ n ≤ l.length := ⟨(lex_good h).1, (lex_good h).2.1⟩
def comb (acc : List Token) (q : List Token × Int × Int) : List Token × Int × Int := if q.2.2 = 0 then (acc ++ q.1, q.2) else ([], q.2)
theorem toks_err : ∀ (f : Nat) (l : List Int) (line k : Nat), (toks f l line k).2.2 ≠ 0 → (toks f l line k).1 = []
  | f, [], line, k, h => by rw [toks_nil] at h; exact absurd rfl h
  | 0, c :: r, line, k, h => rfl
  | f + 1, c :: r, line, k, h => by
    rw [toks] at h ⊢
    cases hx : lexN (c :: r) with
    | none => rfl
    | some p =>
      obtain ⟨kd, n⟩ := p
      rw [hx] at h
      simp only at h ⊢
      by_cases hk : k = 4000
      · rw [if_pos hk]
      · rw [if_neg hk] at h ⊢
        cases hq : toks f (((c :: r).drop n).drop (skipM false ((c :: r).drop n)).1) (line + (skipM false ((c :: r).drop n)).2) (k + 1) with
        | mk L2 q =>
          obtain ⟨ln, code⟩ := q
          rw [hq] at h
          simp only at h ⊢
          by_cases hc : code = 0
          · rw [if_pos hc] at h; exact absurd rfl h
          · rw [if_neg hc]
theorem comb_nil (q : List Token × Int × Int) (h : q.2.2 ≠ 0 → q.1 = []) : comb [] q = q := by
  obtain ⟨L, r⟩ := q
  unfold comb
  split
  · rfl
  · next e => have := h e; simp only at this; rw [this]
theorem toks_end {f line k : Nat} : toks f [] line k = ([endT line], 0, 0) := toks_nil f line k
theorem toks_none {f line k : Nat} {c : Int} {r : List Int} (h : lexN (c :: r) = none) : toks (f + 1) (c :: r) line k = (([] : List Token), ((line : Nat) : Int), (6 : Int)) := by rw [toks, h]
theorem toks_full {f line : Nat} {c : Int} {r : List Int} {kd : Int} {n : Nat} (h : lexN (c :: r) = some (kd, n)) : toks (f + 1) (c :: r) line 4000 = (([] : List Token), ((line : Nat) : Int), (4 : Int)) := by rw [toks, h]; simp
theorem toks_ln0 : ∀ (f : Nat) (l : List Int) (line k : Nat) (L : List Token) (ln : Int), toks f l line k = (L, ln, 0) → ln = 0
  | f, [], line, k, L, ln, h => by rw [toks_nil] at h; injection h with h1 h2; injection h2 with h2 h3; exact h2.symm
  | 0, c :: r, line, k, L, ln, h => by rw [toks] at h; injection h with h1 h2; injection h2 with h2 h3; cases h3
  | f + 1, c :: r, line, k, L, ln, h => by
    rw [toks] at h
    cases hx : lexN (c :: r) with
    | none => rw [hx] at h; injection h with h1 h2; injection h2 with h2 h3; cases h3
    | some p =>
      obtain ⟨kd, n⟩ := p
      rw [hx] at h
      simp only at h
      by_cases hk : k = 4000
      · rw [if_pos hk] at h; injection h with h1 h2; injection h2 with h2 h3; cases h3
      · rw [if_neg hk] at h
        cases hq : toks f (((c :: r).drop n).drop (skipM false ((c :: r).drop n)).1) (line + (skipM false ((c :: r).drop n)).2) (k + 1) with
        | mk L2 q =>
          obtain ⟨ln2, code⟩ := q
          rw [hq] at h
          simp only at h
          by_cases hc : code = 0
          · rw [if_pos hc] at h; injection h with h1 h2; injection h2 with h2 h3; exact h2.symm
          · rw [if_neg hc] at h; injection h with h1 h2; injection h2 with h2 h3; exact absurd h3 hc
theorem toks_step {f line k : Nat} {c : Int} {r : List Int} {kd : Int} {n : Nat} (acc : List Token) (h : lexN (c :: r) = some (kd, n)) (hk : k ≠ 4000) :
    comb acc (toks (f + 1) (c :: r) line k) = comb (acc ++ [⟨kd, strOfNums ((c :: r).take n), line⟩]) (toks f (((c :: r).drop n).drop (skipM false ((c :: r).drop n)).1) (line + (skipM false ((c :: r).drop n)).2) (k + 1)) := by
  rw [toks, h]
  simp only
  rw [if_neg hk]
  cases hq : toks f (((c :: r).drop n).drop (skipM false ((c :: r).drop n)).1) (line + (skipM false ((c :: r).drop n)).2) (k + 1) with
  | mk L2 q =>
    obtain ⟨ln, code⟩ := q
    simp only
    by_cases hc : code = 0
    · subst hc
      have e0 := toks_ln0 f _ _ _ _ _ hq
      rw [if_pos rfl]
      simp [comb, e0]
    · rw [if_neg hc]
      simp [comb, hc]
/-- the answer of Tokens -/
def TokQ (s : ByteArray) (w : World) (e : Ending) (w' : World) : Prop :=
  ∃ v, e = .returned (.tuple #[v, .int .i64 (tokP s).2.1, .int .i64 (tokP s).2.2]) ∧ w'.ownsRow w.heap.size 30 3 v (tokP s).1.length (tkV (tokP s).1) ∧ Below w.heap.size w w'
theorem tokP_long {s : ByteArray} (h : 30000 < s.size) : tokP s = ([], 0, 4) := by rw [tokP, if_pos h]
theorem tokP_short {s : ByteArray} (h : ¬ 30000 < s.size) : tokP s = toks s.size ((byt s).drop (skipM false (byt s)).1) (1 + (skipM false (byt s)).2) 0 := by rw [tokP, if_neg h]
theorem ext_take {s : ByteArray} {a n : Nat} : s.extract a (a + n) = strOfNums (((byt s).drop a).take n) := by
  rw [← strOfNums_byt (s.extract a (a + n)), byt_slice, List.drop_take, Nat.add_sub_cancel_left]
set_option maxHeartbeats 6400000 in
theorem l05Tokens_any {s : ByteArray} (hs : s.size ≤ 1048576) (w : World) : Calls Try.prog 14 #[.string s] w fun e w' => TokQ s w e w' := by
  obtain ⟨i0, hi, hy0, hy1, hy2⟩ := info_parts tok_info
  by_cases hlong : 30000 < s.size
  case pos =>
    have HF := Lib.hid (tokP_long hlong)
    have hd : decide ((30000 : Int) < (s.size : Int)) = true := decide_eq_true (by omega)
    go_enter Try.func14, Try.ntmps14
    go_wp2_with fail
    go_ret3
    exact ⟨.slice none 0 0, by rw [HF.out]; rfl, by rw [HF.out]; exact ⟨rfl, .inl ⟨rfl, rfl⟩⟩, Below.refl _ _⟩
  have hd : decide ((30000 : Int) < (s.size : Int)) = false := decide_eq_false (by omega)
  obtain ⟨R, hR⟩ : ∃ R, R = tokP s := ⟨_, rfl⟩
  have HRR := Lib.hid hR
  have hR2 := hR
  rw [tokP_short hlong] at hR2
  have hskl := (skip_le false (byt s)).1
  have hsl := skip_lines false (byt s)
  rw [byt_length] at hskl
  have hE : ∀ f l line k, (toks f l line k).2.2 ≠ 0 → (toks f l line k).1 = [] := toks_err
  have HC0 : Hid (comb [] (toks s.size ((byt s).drop (0 + (skipM false ((byt s).drop 0)).1)) (1 + (skipM false ((byt s).drop 0)).2) 0) = R) := by
    show _ = _
    rw [List.drop_zero, Nat.zero_add, hR2]
    exact comb_nil _ (hE _ _ _ _)
  have hk0 : 0 + (skipM false ((byt s).drop 0)).1 ≤ s.size := by rw [List.drop_zero]; omega
  have hl0 : 1 + (skipM false ((byt s).drop 0)).2 ≤ 0 + (skipM false ((byt s).drop 0)).1 + 1 := by rw [List.drop_zero]; omega
  have HO0 : Hid ((w.alloc (.cells #[] 30)).ownsRow w.heap.size 30 3 (.slice (some ⟨w.heap.size, 0, none⟩) 0 0) 0 (tkV [])) := World.ownsRow_made w #[] 0 (Nat.le_refl _) (by simp) (by simp)
  have HB0 : Hid (Below w.heap.size w (w.alloc (.cells #[] 30))) := (Below.refl _ _).alloc (Nat.le_refl _) _
  have hs3 : s.size ≤ 30000 := by omega
  have HQF : Hid (∀ e w', (∃ v, e = .returned (.tuple #[v, .int .i64 R.2.1, .int .i64 R.2.2]) ∧ w'.ownsRow w.heap.size 30 3 v R.1.length (tkV R.1) ∧ Below w.heap.size w w') → TokQ s w e w') := fun e w' h => by rw [hR] at h; exact h
  clear hR hR2 hE hskl hsl hlong hs
  go_enter Try.func14, Try.ntmps14
  go_wp2_with fail
  refine (l05Skip_any (a := 0) (n0 := 1) (by omega) (by omega) (by omega) _).mono ?_
  rintro e w' ⟨rfl, rfl⟩
  obtain ⟨k0, hk0e⟩ : ∃ k, k = 0 + (skipM false ((byt s).drop 0)).1 := ⟨_, rfl⟩
  obtain ⟨n0, hn0e⟩ : ∃ k, k = 1 + (skipM false ((byt s).drop 0)).2 := ⟨_, rfl⟩
  rw [← hk0e, ← hn0e] at HC0 hl0 ⊢
  rw [← hk0e] at hk0
  clear hk0e hn0e
  go_wp2_with fail
  go_loopw [5, 6, 7] (fun o i l wr => ∃ (v : Value) (k n m f : Nat) (acc : List Token), v = o ∧ i = .int .i64 k ∧ l = .int .i64 n ∧ k ≤ s.size ∧ n ≤ k + 1 ∧ m ≤ 4000 ∧ s.size ≤ k + f ∧ Hid (acc.length = m) ∧ Hid (comb acc (toks f ((byt s).drop k) n m) = R) ∧ Hid (wr.ownsRow w.heap.size 30 3 v m (tkV acc)) ∧ Hid (Below w.heap.size w wr)) (fun _ i _ _ => s.size - (intOf i).toNat)
  case atStart => exact ⟨_, k0, n0, 0, s.size, [], rfl, rfl, rfl, hk0, hl0, by omega, by omega, Lib.hid rfl, HC0, HO0, HB0⟩
  case round =>
    clear HC0 HO0 HB0 hk0 hl0
    obtain ⟨v, k, n, m, f, acc, rfl, rfl, rfl, hk, hn, hm, hf, HAL, HC, HO, HB⟩ := hrel
    obtain ⟨uA, uN, uC, rfl, -, -, -⟩ := (Own.of_own HO.out).form
    have hun : uN = m := by
      rcases HO.out.2 with ⟨he, h0⟩ | ⟨g, cap, cur, he, _⟩
      · injection he with e1 e2 e3; omega
      · injection he with e1 e2 e3
    subst hun
    have hszw := HB.out.size
    by_cases hlt : k < s.size
    case neg =>
      have hdl : decide ((k : Int) < (s.size : Int)) = false := decide_eq_false (by omega)
      have HF : Hid (R = (acc ++ [endT n], 0, 0)) := by
        have h := HC.out
        rw [drop_byt_end (by omega), toks_nil] at h
        rw [← h]; rfl
      have hs1 := HO.out.alloc (.cells #[.int .i64 4, .string ⟨#[]⟩, .int .i64 (n : Int)] 30)
      have HSC : Hid (SrcOk (wr.alloc (.cells #[.int .i64 4, .string ⟨#[]⟩, .int .i64 (n : Int)] 30)) (.slice (some ⟨wr.heap.size, 0, none⟩) 1 1) 3 1 (tkV [endT n])) := .inr ⟨⟨wr.heap.size, 0, none⟩, 1, rfl, rfl, news_tk wr (endT n)⟩
      have hB2 : Below w.heap.size w (wr.alloc (.cells #[.int .i64 4, .string ⟨#[]⟩, .int .i64 (n : Int)] 30)) := HB.out.alloc hszw _
      go_wp2_with (at_builtin; refine wpList_append_src rfl _ _ 24 rfl w.heap.size 30 i0 (.agg #[.int .i64 0, .string ⟨#[]⟩, .int .i64 0]) 3 32 Try.underlying24 hi hy0 hy1 hy2 rfl (by decide) _ _ _ rfl hs1 _ _ _ rfl HSC.out (one_tk _) (by simp only [maxLen]; omega) (by omega) hB2.size ?_; intro v' w3 hown' hgrow _)
      have hB3 := hB2.grown hgrow hB2.size (fun g hg => (hs1.lt g hg).1)
      go_ret3
      refine HQF.out _ _ ⟨v', by rw [HF.out]; rfl, ?_, hB3⟩
      rw [HF.out, tkV_append, List.length_append, List.length_singleton, HAL.out]
      exact hown'
    have hdl : decide ((k : Int) < (s.size : Int)) = true := decide_eq_true (by omega)
    obtain ⟨f, rfl⟩ : ∃ g, f = g + 1 := ⟨f - 1, by omega⟩
    have hrest := drop_byt hlt
    have HR := Lib.hid hrest
    have hni : (n : Int) ≤ 100000 := by omega
    clear hrest
    go_wp2_with fail
    refine (l05Lex_any hlt (by omega) _).mono ?_
    rintro e w1 ⟨rfl, b1⟩
    have HB1 := Lib.hid (HB.out.trans (b1.mono hszw))
    have HO1 := Lib.hid (owns_step HO.out b1)
    have hszw1 := HB1.out.size
    clear b1
    cases hlx : lexN ((byt s).drop k) with
    | none =>
      rw [lexV_none hlx]
      have HF : Hid (R = ([], (n : Int), 6)) := by
        have h := HC.out
        rw [HR.out, toks_none (by rw [← HR.out]; exact hlx)] at h
        rw [← h]; rfl
      clear hlx
      go_wp2_with fail
      go_ret3
      exact HQF.out _ _ ⟨.slice none 0 0, by rw [HF.out]; rfl, by rw [HF.out]; exact ⟨rfl, .inl ⟨rfl, rfl⟩⟩, HB1.out.alloc hszw1 _⟩
    | some p =>
      obtain ⟨kd, n1⟩ := p
      rw [lexV_some hlx, ext_take]
      obtain ⟨hn1, hn2⟩ := lex_rng hlx
      rw [List.length_drop, byt_length] at hn2
      obtain ⟨E, hE⟩ : ∃ E, E = k + n1 := ⟨_, rfl⟩
      rw [← hE]
      have he0 : ((E : Int) == 0) = false := by simp; omega
      by_cases hfull : uN = 4000
      case pos =>
        subst hfull
        have HF : Hid (R = ([], (n : Int), 4)) := by
          have h := HC.out
          rw [HR.out, toks_full (by rw [← HR.out]; exact hlx)] at h
          rw [← h]; rfl
        clear hlx
        go_wp2_with fail
        go_ret3
        exact HQF.out _ _ ⟨.slice none 0 0, by rw [HF.out]; rfl, by rw [HF.out]; exact ⟨rfl, .inl ⟨rfl, rfl⟩⟩, HB1.out.alloc hszw1 _⟩
      have hfl : ((uN : Int) == 4000) = false := by simp; omega
      obtain ⟨T, hT⟩ : ∃ T : ByteArray, T = strOfNums (((byt s).drop k).take n1) := ⟨_, rfl⟩
      rw [← hT]
      have HC2 : Hid (comb (acc ++ [⟨kd, T, n⟩]) (toks f ((byt s).drop (E + (skipM false ((byt s).drop E)).1)) (n + (skipM false ((byt s).drop E)).2) (uN + 1)) = R) := by
        have h := HC.out
        have hdd : ((byt s).drop k).drop n1 = (byt s).drop E := by rw [List.drop_drop, ← hE]
        rw [HR.out, toks_step acc (by rw [← HR.out]; exact hlx) hfull, ← HR.out, hdd, List.drop_drop, ← hT] at h
        exact h
      have hskE := (skip_le false ((byt s).drop E)).1
      have hslE := skip_lines false ((byt s).drop E)
      rw [List.length_drop, byt_length] at hskE
      have hEk : k + 1 ≤ E ∧ E ≤ s.size := by omega
      have hm2 : uN + 1 ≤ 4000 := by omega
      clear hlx hT hE hn1 hn2 hfull
      have hB2 : Below w.heap.size w (w1.alloc (.cells #[.int .i64 kd, .string T, .int .i64 (n : Int)] 30)) := HB1.out.alloc hszw1 _
      have HB3 := Lib.hid (hB2.alloc hB2.size (.cells #[.int .i64 kd, .string T, .int .i64 (n : Int)] 30))
      have HS1 := Lib.hid ((HO1.out.alloc (.cells #[.int .i64 kd, .string T, .int .i64 (n : Int)] 30)).alloc (.cells #[.int .i64 kd, .string T, .int .i64 (n : Int)] 30))
      have HSC : Hid (SrcOk ((w1.alloc (.cells #[.int .i64 kd, .string T, .int .i64 (n : Int)] 30)).alloc (.cells #[.int .i64 kd, .string T, .int .i64 (n : Int)] 30)) (.slice (some ⟨w1.heap.size + 1, 0, none⟩) 1 1) 3 1 (tkV [⟨kd, T, n⟩])) := by
        have := news_tk (w1.alloc (.cells #[.int .i64 kd, .string T, .int .i64 (n : Int)] 30)) ⟨kd, T, n⟩
        exact .inr ⟨⟨w1.heap.size + 1, 0, none⟩, 1, rfl, rfl, by simpa using this⟩
      clear hB2
      go_wp2_with (at_builtin; go_loud (refine wpList_append_src rfl _ _ 24 rfl w.heap.size 30 i0 (.agg #[.int .i64 0, .string ⟨#[]⟩, .int .i64 0]) 3 32 Try.underlying24 hi hy0 hy1 hy2 rfl (by decide) _ _ _ rfl HS1.out _ _ _ rfl HSC.out (one_tk _) (by simp only [maxLen]; omega) (by omega) HB3.out.size ?_); intro v' w3 hown' hgrow _)
      have HB4 := Lib.hid (HB3.out.grown hgrow HB3.out.size (fun g hg => (HS1.out.lt g hg).1))
      have HO4 := Lib.hid hown'
      clear hown' hgrow
      refine (l05Skip_any (a := E) (n0 := n) hEk.2 (by omega) (by omega) _).mono ?_
      rintro e w' ⟨rfl, rfl⟩
      obtain ⟨k2, hk2⟩ : ∃ k2, k2 = E + (skipM false ((byt s).drop E)).1 := ⟨_, rfl⟩
      obtain ⟨n2, hn2⟩ : ∃ k2, k2 = n + (skipM false ((byt s).drop E)).2 := ⟨_, rfl⟩
      rw [← hk2, ← hn2] at HC2 ⊢
      have hk3 : k2 ≤ s.size ∧ k < k2 ∧ n2 ≤ k2 + 1 ∧ s.size ≤ k2 + f := by omega
      clear hk2 hn2 hskE hslE
      go_wp2_with fail
      go_roundw
      case rel => exact ⟨_, k2, n2, uN + 1, f, acc ++ [⟨kd, T, n⟩], rfl, rfl, rfl, hk3.1, hk3.2.2.1, hm2, hk3.2.2.2, Lib.hid (by rw [List.length_append, HAL.out]; rfl), HC2, Lib.hid (by rw [tkV_append]; exact HO4.out), HB4⟩
      case measure => simp [intOf]; omega
set_option maxHeartbeats 1600000 in
theorem specTokens_any {s : ByteArray} (hs : s.size ≤ 1048576) (w : World) : Calls Try.prog 6 #[.string s] w fun e w' => TokQ s w e w' := by
  have HT := Lib.hid (l05Tokens_any hs w)
  cases hR : tokP s with
  | mk L q =>
    obtain ⟨ln, code⟩ := q
    have HL : Hid (code ≠ 0 → L = []) := by
      intro h
      by_cases hl : 30000 < s.size
      · rw [tokP_long hl] at hR; injection hR with h1 h2; exact h1.symm
      · rw [tokP_short hl] at hR
        have := toks_err s.size ((byt s).drop (skipM false (byt s)).1) (1 + (skipM false (byt s)).2) 0
        rw [hR] at this
        exact this h
    have HZ : Hid (code = 0 → ln = 0) := by
      intro h
      subst h
      obtain ⟨_, _, _, h2, _⟩ := tokP_good hR
      exact h2
    have HRR := Lib.hid hR
    by_cases hc : code = 0
    · subst hc
      have hln := HZ.out rfl
      subst hln
      go_enter Try.func6, Try.ntmps6
      go_wp2_with fail
      refine HT.out.mono ?_
      rintro e w1 ⟨v, rfl, ho, hb⟩
      rw [HRR.out] at ho ⊢
      have HO := Lib.hid ho
      simp only
      obtain ⟨uA, uN, uC, rfl, -, -, -⟩ := (Own.of_own ho).form
      go_wp2_with fail
      go_ret3
      exact ⟨_, by rw [HRR.out]; rfl, by rw [HRR.out]; exact HO.out, hb⟩
    · have hcb : (code == 0) = false := by simpa using hc
      have hL := HL.out hc
      subst hL
      go_enter Try.func6, Try.ntmps6
      go_wp2_with fail
      refine HT.out.mono ?_
      rintro e w1 ⟨v, rfl, ho, hb⟩
      rw [HRR.out] at ho ⊢
      simp only
      obtain ⟨uA, uN, uC, rfl, -, -, -⟩ := (Own.of_own ho).form
      go_wp2_with fail
      go_ret3
      refine ⟨.slice (some ⟨w1.heap.size, 0, none⟩) 0 0, by rw [HRR.out]; rfl, ?_, hb.alloc hb.size _⟩
      rw [HRR.out]
      exact World.ownsRow_made w1 #[] 0 hb.size (by simp) (by simp)
end Go.Proofs.Ytfnncclplbbghaa

