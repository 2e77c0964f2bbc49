/-
  Decode, Transcode (by program: gen_dec.py).
-/
import Derived.Test.YtdmmiboefdbcdaaDoorEncOk
namespace Go.Proofs.YtdmmiboefdbcdaaDoor
open Go.RowKit
set_option linter.unusedVariables false
set_option linter.unusedSimpArgs false
set_option linter.unnecessarySimpa false
set_option maxRecDepth 16000

/-! ### units and pairs, plain -/
def unitsL : List Int → List Int
  | a :: b :: r => (a + 256 * b) :: unitsL r
  | _ => []
def ptsG (f : Int → Int → Int) : List Int → List Int
  | [] => []
  | [n] => [n]
  | n :: m :: r => if inB n 55296 56319 = true then f n m :: ptsG f r else n :: ptsG f (m :: r)
def fI (n m : Int) : Int := 65536 + (n - 55296) * 1024 + m - 56320
def fS (n m : Int) : Int := 65536 + (n - 55296) * 1024 + (m - 56320) % 1024
theorem ptsG_no {f : Int → Int → Int} {n : Int} (h : inB n 55296 56319 = false) (l : List Int) : ptsG f (n :: l) = n :: ptsG f l := by
  cases l with
  | nil => rfl
  | cons m r => rw [ptsG, h]; rfl
theorem ptsG_one {f : Int → Int → Int} {n : Int} : ptsG f [n] = n :: ptsG f [] := rfl
theorem ptsG_pair {f : Int → Int → Int} {n m : Int} {r : List Int} (h : inB n 55296 56319 = true) : ptsG f (n :: m :: r) = f n m :: ptsG f r := by rw [ptsG, if_pos h]
def Low (f : Int → Int → Int) : Prop := ∀ n m, 56320 ≤ m → m ≤ 57343 → f n m = 65536 + (n - 55296) * 1024 + (m - 56320)
theorem low_fI : Low fI := fun n m h1 h2 => by unfold fI; omega
theorem low_fS : Low fS := fun n m h1 h2 => by unfold fS; omega
theorem units_utf {f : Int → Int → Int} (hf : Low f) : ∀ xs : List Int, (∀ x ∈ xs, charOk x = true) → ptsG f (unitsL (xs.flatMap utfB)) = xs
  | [], _ => rfl
  | x :: xs, h => by
    have h1 := charOk_rune (h x (by simp))
    have ih := units_utf hf xs fun y hy => h y (by simp [hy])
    rw [List.flatMap_cons]
    by_cases hx : x < 65536
    · rw [utfB_lo hx]
      show ptsG f ((x % 256 + 256 * (x / 256 % 256)) :: unitsL (xs.flatMap utfB)) = _
      rw [show x % 256 + 256 * (x / 256 % 256) = x by omega, ptsG_no (inB_no.2 (by omega)), ih]
    · rw [utfB_hi hx]
      obtain ⟨a, ha⟩ : ∃ a, a = 55296 + (x - 65536) / 1024 := ⟨_, rfl⟩
      obtain ⟨b, hb⟩ : ∃ b, b = 56320 + (x - 65536) % 1024 := ⟨_, rfl⟩
      rw [← ha, ← hb]
      show ptsG f ((a % 256 + 256 * (a / 256 % 256)) :: (b % 256 + 256 * (b / 256 % 256)) :: unitsL (xs.flatMap utfB)) = _
      rw [show a % 256 + 256 * (a / 256 % 256) = a by omega, show b % 256 + 256 * (b / 256 % 256) = b by omega, ptsG_pair (inB_yes (by omega) (by omega)), ih, hf a b (by omega) (by omega)]
      congr 1
      omega
def uAt (s : ByteArray) (i : Nat) : Int := v256 (byt (s.extract i (i + 2)))
theorem unit_at {s : ByteArray} {i : Nat} (h : i + 1 < s.size) : unitsL ((byt s).drop i) = uAt s i :: unitsL ((byt s).drop (i + 2)) ∧ 0 ≤ uAt s i ∧ uAt s i ≤ 65535 := by
  have hl : (byt s).length = s.size := byt_length s
  have d0 : (byt s).drop i = (byt s)[i]'(by omega) :: (byt s).drop (i + 1) := List.drop_eq_getElem_cons (by omega)
  have d1 : (byt s).drop (i + 1) = (byt s)[i + 1]'(by omega) :: (byt s).drop (i + 2) := List.drop_eq_getElem_cons (by omega)
  have m0 : (byt s)[i]'(by omega) ∈ byt s := List.getElem_mem _
  have m1 : (byt s)[i + 1]'(by omega) ∈ byt s := List.getElem_mem _
  have b0 := byt_mem m0
  have b1 := byt_mem m1
  have e : byt (s.extract i (i + 2)) = [(byt s)[i]'(by omega), (byt s)[i + 1]'(by omega)] := by
    rw [byt_slice, List.drop_take, show i + 2 - i = 2 by omega, d0, d1]
    rfl
  have hu : uAt s i = (byt s)[i]'(by omega) + 256 * (byt s)[i + 1]'(by omega) := by rw [uAt, e]; simp [v256]
  refine ⟨by rw [d0, d1, unitsL, hu], by omega, by omega⟩
theorem unit_end {s : ByteArray} {i : Nat} (h : ¬ i + 1 < s.size) : unitsL ((byt s).drop i) = [] := by
  have hl : ((byt s).drop i).length ≤ 1 := by rw [List.length_drop, byt_length]; omega
  match hd : (byt s).drop i, hl with
  | [], _ => rfl
  | [a], _ => rfl
def PtB (x : Int) : Prop := -100000000 ≤ x ∧ x ≤ 100000000
def AllB (xs : List Int) : Prop := ∀ x ∈ xs, PtB x
theorem AllB.snoc {xs : List Int} {x : Int} (h : AllB xs) (hx : PtB x) : AllB (xs ++ [x]) := fun y hy => by
  rcases List.mem_append.1 hy with hy | hy
  · exact h y hy
  · rw [List.mem_singleton.1 hy]; exact hx
theorem rdI_own {w : World} {base n c : Nat} {A : Option Addr} {xs : List Int} (h : w.ownsRow base 2 1 (.slice A n c) n (i64s xs)) (hb : AllB xs) : RdI w w.heap.size A n xs := by
  have hr := Rd.of_own h
  refine ⟨by have := hr.1; simp at this; omega, hr, fun x hx => WalkArith.wf_i64 ?_⟩
  have := hb x hx
  unfold PtB at this
  omega

/-! ### what is decoded -/
theorem text_ok {xs : List Int} (h : textOk xs = true) : ptsQ (byt (textStr xs)) = some xs ∧ (textStr xs).size ≤ 24 := by
  rw [textStr_yes h]
  simp only [textOk, Bool.and_eq_true, List.all_eq_true, decide_eq_true_eq] at h
  refine ⟨?_, by rw [strOfNums_size]; exact h.2⟩
  rw [byt_strOfNums encs_byte]
  exact ptsQ_iff.2 ⟨h.1, rfl⟩
def decC (n : Int) (P : List Int) (s : ByteArray) : Option ByteArray := if textOk P = true ∧ encT n (textStr P) = some s then some (textStr P) else none
theorem decC_no1 {n : Int} {P : List Int} {s : ByteArray} (h : textOk P = false) : decC n P s = none := if_neg fun e => by rw [h] at e; exact absurd e.1 (by decide)
theorem decC_no2 {n : Int} {P : List Int} {s : ByteArray} (h : encT n (textStr P) = none) : decC n P s = none := if_neg fun e => by rw [h] at e; cases e.2
theorem decC_no3 {n : Int} {P : List Int} {s t : ByteArray} (h : encT n (textStr P) = some t) (h2 : ¬ t = s) : decC n P s = none := if_neg fun e => by rw [h] at e; exact h2 (Option.some.inj e.2)
theorem decC_yes {n : Int} {P : List Int} {s : ByteArray} (h1 : textOk P = true) (h : encT n (textStr P) = some s) : decC n P s = some (textStr P) := if_pos ⟨h1, h⟩
theorem textOk_take (P : List Int) : textOk (P.take 25) = textOk P ∧ textStr (P.take 25) = textStr P := by
  by_cases h : P.length ≤ 25
  · rw [List.take_of_length_le h]; exact ⟨rfl, rfl⟩
  · have h1 : textOk P = false := text_long 25 (by have := encs_len (P.take 25); rw [List.length_take] at this; omega)
    have h2 : textOk (P.take 25) = false := by
      refine text_long 25 ?_
      rw [List.take_take, Nat.min_self]
      have := encs_len (P.take 25); rw [List.length_take] at this; omega
    exact ⟨by rw [h1, h2], by rw [textStr_no h1, textStr_no h2]⟩
theorem decC_take (n : Int) (P : List Int) (s : ByteArray) : decC n (P.take 25) s = decC n P s := by
  obtain ⟨h1, h2⟩ := textOk_take P
  rw [decC, decC, h1, h2]
def ptsOf (f : Int → Int → Int) (n : Int) (s : ByteArray) : List Int := if n = 2 then ptsG f (unitsL (byt s)) else byt s
theorem dec_round {f : Int → Int → Int} (hf : Low f) {P : List Int} {s : ByteArray} (h1 : textOk P = true) (h : encT 2 (textStr P) = some s) : ptsG f (unitsL (byt s)) = P := by
  obtain ⟨hx, hs⟩ := text_ok h1
  rw [encT_eq (by decide) hx, encO, if_pos (.inl rfl)] at h
  injection h with h
  rw [← h, byt_strOfNums]
  · have : P.flatMap (encF 2) = P.flatMap utfB := rfl
    rw [this]
    exact units_utf hf P fun x hx' => by
      simp only [textOk, Bool.and_eq_true, List.all_eq_true] at h1
      exact h1.1 x hx'
  · intro x hx'
    obtain ⟨y, _, hy⟩ := List.mem_flatMap.1 hx'
    exact utfB_byte y x hy
theorem dec_same {f g : Int → Int → Int} (hf : Low f) (hg : Low g) (n : Int) (s : ByteArray) : decC n (ptsOf f n s) s = decC n (ptsOf g n s) s := by
  by_cases hn : n = 2
  · subst hn
    simp only [ptsOf, if_pos]
    have key : ∀ (f g : Int → Int → Int), Low f → Low g → ∀ t, decC 2 (ptsG f (unitsL (byt s))) s = some t → decC 2 (ptsG g (unitsL (byt s))) s = some t := by
      intro f g hf hg t h
      rw [decC] at h
      split at h
      · rename_i hc
        have := dec_round hg hc.1 hc.2
        rw [this, decC, if_pos hc]; exact h
      · cases h
    cases h1 : decC 2 (ptsG f (unitsL (byt s))) s with
    | some t => exact (key f g hf hg t h1).symm
    | none =>
      cases h2 : decC 2 (ptsG g (unitsL (byt s))) s with
      | none => rfl
      | some t => rw [key g f hg hf t h2] at h1; cases h1
  · simp only [ptsOf, if_neg hn]
def decT (n : Int) (s : ByteArray) : Option ByteArray := if n = 1 then (if (decide (s.size ≤ 24) && (ptsQ (byt s)).isSome) = true then some s else none) else decC n (ptsOf fI n s) s
theorem decT_1 (s : ByteArray) : decT 1 s = if (decide (s.size ≤ 24) && (ptsQ (byt s)).isSome) = true then some s else none := if_pos rfl
theorem decT_I {n : Int} {s : ByteArray} (h : ¬ n = 1) : decT n s = decC n (ptsOf fI n s) s := if_neg h
theorem decT_S {n : Int} {s : ByteArray} (h : ¬ n = 1) : decT n s = decC n ((ptsOf fS n s).take 25) s := by rw [decT_I h, decC_take, dec_same low_fI low_fS]
/-- a row of numbers of the call's own -/
def RowR (w w' : World) (xs : List Int) (e : Ending) : Prop := ∃ u n, e = .returned u ∧ w'.ownsRow w.heap.size 2 1 u n (i64s xs) ∧ Below w.heap.size w w'
def txtRes (o : Option ByteArray) : Ending := match o with
  | none => .returned (.tuple #[.string ⟨#[]⟩, .int .i64 19])
  | some t => .returned (.tuple #[.string t, .int .i64 0])
def TNO : Ending := .returned (.tuple #[.string ⟨#[]⟩, .int .i64 19])
theorem decT_text {n : Int} {s t : ByteArray} (h : decT n s = some t) : (decide (t.size ≤ 24) && (ptsQ (byt t)).isSome) = true := by
  rw [decT] at h
  split at h
  · split at h
    · rename_i hc
      cases h; exact hc
    · cases h
  · rw [decC] at h
    split at h
    · rename_i hc
      cases h
      obtain ⟨h1, h2⟩ := text_ok hc.1
      rw [h1, decide_eq_true h2]; rfl
    · cases h

end Go.Proofs.YtdmmiboefdbcdaaDoor

