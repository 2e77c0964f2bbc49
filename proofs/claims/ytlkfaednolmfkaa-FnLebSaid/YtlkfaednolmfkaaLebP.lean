/-
  FnLeb: the plain laws: what is encoded is decoded again; hexadecimal digits.
-/
import Derived.Test.YtlkfaednolmfkaaGetX
import Derived.Test.YtlkfaednolmfkaaGetB
import Derived.Test.YtlkfaednolmfkaaFix
namespace Go.Proofs.Ytlkfaednolmfkaa
open Go.RowKit
set_option linter.unusedVariables false
set_option linter.unusedSimpArgs false
set_option linter.unnecessarySimpa false

/-! ### the last byte alone is below 128 -/
theorem pref_cat (q : List Int) : ∀ {f : Nat} {b : Int} {T : List Int}, (∀ x ∈ q, 128 ≤ x ∧ x ≤ 255) → b < 128 → q.length + 1 ≤ f → pref f (q ++ b :: T) = some (q.length + 1) := by
  induction q with
  | nil =>
    intro f b T _ hb hf
    obtain ⟨g, rfl⟩ : ∃ g, f = g + 1 := ⟨f - 1, by simp at hf; omega⟩
    rw [List.nil_append, pref, if_pos hb]
    rfl
  | cons c q ih =>
    intro f b T hq hb hf
    obtain ⟨g, rfl⟩ : ∃ g, f = g + 1 := ⟨f - 1, by simp at hf; omega⟩
    have hc := hq c (by simp)
    rw [List.cons_append, pref, if_neg (by omega), ih (fun x hx => hq x (by simp [hx])) hb (by simp at hf; omega)]
    rfl
theorem sleb_val : ∀ (f : Nat) {n : Int}, n.natAbs ≤ f → ∃ q b, sleb n = q ++ [b] ∧ (∀ x ∈ q, 128 ≤ x ∧ x ≤ 255) ∧ 0 ≤ b ∧ b < 128 ∧ n = val (q ++ [b]) - (if 64 ≤ b then 128 ^ (q.length + 1) else 0)
  | 0, n, hf => ⟨[], 0, by rw [sleb_one (by omega) (by omega)]; have : n = 0 := by omega
                           subst this; rfl, by simp, by omega, by omega, by simp [val]; omega⟩
  | f + 1, n, hf => by
    by_cases h : -64 ≤ n ∧ n ≤ 63
    · refine ⟨[], n % 128, by rw [sleb_one h.1 h.2]; rfl, by simp, by omega, by omega, ?_⟩
      simp only [List.nil_append, val, List.length_nil]
      split <;> omega
    · obtain ⟨q, b, h1, h2, h3, h4, h5⟩ := sleb_val f (n := n / 128) (by omega)
      refine ⟨(n % 128 + 128) :: q, b, by rw [sleb_more h, h1]; rfl, fun x hx => ?_, h3, h4, ?_⟩
      · rcases List.mem_cons.1 hx with rfl | hx
        · omega
        · exact h2 x hx
      · rw [List.cons_append, val, List.length_cons]
        obtain ⟨v, hv⟩ : ∃ v, v = val (q ++ [b]) := ⟨_, rfl⟩
        obtain ⟨p, hp⟩ : ∃ p : Int, p = 128 ^ (q.length + 1) := ⟨_, rfl⟩
        rw [← hv, ← hp] at h5
        rw [← hv, Int.pow_succ, ← hp]
        split at h5
        · rename_i hb; rw [if_pos hb]; omega
        · rename_i hb; rw [if_neg hb]; omega
theorem leb_vals : ∀ (f : Nat) {n : Int}, n.toNat ≤ f → 0 ≤ n → ∃ q b, leb n = q ++ [b] ∧ (∀ x ∈ q, 128 ≤ x ∧ x ≤ 255) ∧ 0 ≤ b ∧ b < 128 ∧ n = val (q ++ [b])
  | 0, n, hf, h0 => ⟨[], 0, by rw [leb_one (by omega)]; have : n = 0 := by omega
                               subst this; rfl, by simp, by omega, by omega, by simp [val]; omega⟩
  | f + 1, n, hf, h0 => by
    by_cases h : n ≤ 127
    · refine ⟨[], n, by rw [leb_one h]; rfl, by simp, by omega, by omega, ?_⟩
      simp only [List.nil_append, val]
      omega
    · obtain ⟨q, b, h1, h2, h3, h4, h5⟩ := leb_vals f (n := n / 128) (by omega) (by omega)
      refine ⟨(n % 128 + 128) :: q, b, by rw [leb_more (by omega), h1]; rfl, fun x hx => ?_, h3, h4, ?_⟩
      · rcases List.mem_cons.1 hx with rfl | hx
        · omega
        · exact h2 x hx
      · rw [List.cons_append, val, ← h5]; omega
theorem byt_cat {L : List Int} {T : ByteArray} (hL : ∀ x ∈ L, 0 ≤ x ∧ x ≤ 255) : byt (strOfNums L ++ T) = L ++ byt T := by rw [byt_app, byt_strOfNums hL]
theorem cat_take {L : List Int} {T : ByteArray} (hL : ∀ x ∈ L, 0 ≤ x ∧ x ≤ 255) : strOfNums L = (strOfNums L ++ T).extract 0 L.length := by
  rw [str_take hL, byt_cat hL, List.take_left']
  rfl
theorem getSleb_cat {n : Int} (hn : (Lit.int .i64 n).wf = true) (T : ByteArray) : getSleb (strOfNums (sleb n) ++ T) = some (n, (sleb n).length) := by
  have hb := wf64 hn
  have hten := sleb_ten hn
  have hmem := sleb_mem _ (n := n) (Nat.le_refl _)
  obtain ⟨q, b, h1, h2, h3, h4, h5⟩ := sleb_val _ (n := n) (Nat.le_refl _)
  have hlen : (sleb n).length = q.length + 1 := by rw [h1]; simp
  have hp : pref 10 (byt (strOfNums (sleb n) ++ T)) = some (sleb n).length := by
    rw [byt_cat hmem, hlen, h1, List.append_assoc]
    exact pref_cat q h2 h4 (by omega)
  have hv : svalAt (byt (strOfNums (sleb n) ++ T)) (sleb n).length = n := by
    rw [byt_cat hmem, svalAt, List.take_left']
    · have hg : (sleb n ++ byt T)[(sleb n).length - 1]? = some b := by
        rw [hlen, h1, List.append_assoc, Nat.add_sub_cancel, List.getElem?_append_right (Nat.le_refl _), Nat.sub_self]
        rfl
      rw [hg, Option.getD_some, h1]
      rw [h1] at hlen hten
      rw [hlen]
      rw [hlen] at hten
      obtain ⟨v, hv⟩ : ∃ v, v = val (q ++ [b]) := ⟨_, rfl⟩
      rw [← hv] at h5 ⊢
      by_cases h64 : 64 ≤ b
      · rw [if_pos h64] at h5
        by_cases h9 : q.length + 1 ≤ 9
        · rw [if_pos ⟨h9, h64⟩]; exact h5.symm
        · have e : q.length + 1 = 10 := by omega
          rw [if_neg (by omega)]
          rw [e] at h5
          have e2 : (128 : Int) ^ 10 = 1180591620717411303424 := by decide
          rw [e2] at h5
          rw [wrap64]; omega
      · rw [if_neg h64, Int.sub_zero] at h5
        rw [if_neg (by omega), ← h5]
        exact wrap64_id hb.1 hb.2
    · rfl
  have hx := getSleb_yes hp (by rw [hv]; exact cat_take hmem)
  rw [hv] at hx
  exact hx
theorem leb_nine {n : Int} (h0 : 0 ≤ n) (hn : (Lit.int .i64 n).wf = true) : (leb n).length ≤ 9 := by
  have := wf64 hn
  exact leb_len 8 n h0 (by omega)
theorem getLeb_cat {n : Int} (h0 : 0 ≤ n) (hn : (Lit.int .i64 n).wf = true) (T : ByteArray) : getLeb (strOfNums (leb n) ++ T) = some (n, (leb n).length) := by
  have hmem := leb_mem _ (n := n) (Nat.le_refl _) h0
  have hten := leb_nine h0 hn
  obtain ⟨q, b, h1, h2, h3, h4, h5⟩ := leb_vals _ (n := n) (Nat.le_refl _) h0
  have hlen : (leb n).length = q.length + 1 := by rw [h1]; simp
  have hp : pref 9 (byt (strOfNums (leb n) ++ T)) = some (leb n).length := by
    rw [byt_cat hmem, hlen, h1, List.append_assoc]
    exact pref_cat q h2 h4 (by omega)
  have hv : val ((byt (strOfNums (leb n) ++ T)).take (leb n).length) = n := by
    rw [byt_cat hmem, List.take_left' rfl, h1]; exact h5.symm
  have hx := getLeb_yes hp (by rw [hv]; exact cat_take hmem)
  rw [hv] at hx
  exact hx
theorem leb_le_sleb : ∀ (f : Nat) {n : Int}, n.toNat ≤ f → 0 ≤ n → (leb n).length ≤ (sleb n).length
  | 0, n, hf, h0 => by rw [leb_one (by omega)]; exact sleb_pos n
  | f + 1, n, hf, h0 => by
    by_cases h : n ≤ 127
    · rw [leb_one h]; exact sleb_pos n
    · rw [leb_more (by omega), sleb_more (by omega), List.length_cons, List.length_cons]
      have := leb_le_sleb f (n := n / 128) (by omega) (by omega)
      omega
/-- what is decoded: its encoding stands at the head -/
theorem getLeb_some {t : ByteArray} {y : Int} {k : Nat} (h : getLeb t = some (y, k)) : 1 ≤ k ∧ k ≤ t.size ∧ strOfNums (leb y) = t.extract 0 k ∧ 0 ≤ y ∧ y ≤ 9223372036854775807 := by
  rw [getLeb] at h
  split at h
  · cases h
  · next m hm =>
    split at h
    · next e =>
      injection h with h
      injection h with h1 h2
      subst h1 h2
      obtain ⟨a, b, c⟩ := pref_le hm
      rw [byt_length] at c
      refine ⟨a, c, e, val_nonneg _, ?_⟩
      have a := val_lt ((byt t).take m)
      have b := pow9 (k := ((byt t).take m).length) (by simp; omega)
      omega
    · cases h
theorem getB_put {w T : ByteArray} (hw : w.size ≤ 1048576) : getB (putB w ++ T) = some (w, (putB w).size) := by
  have h0 : (0 : Int) ≤ (w.size : Int) := by omega
  have hwf : (Lit.int .i64 (w.size : Int)).wf = true := WalkArith.wf_i64 (by omega)
  have e : putB w ++ T = strOfNums (leb (w.size : Int)) ++ (w ++ T) := by rw [putB, ByteArray.append_assoc]
  have hl := getLeb_cat h0 hwf (w ++ T)
  rw [e]
  have hsz : (strOfNums (leb (w.size : Int))).size = (leb (w.size : Int)).length := strOfNums_size _
  rw [getB_yes hl (by simp only [ByteArray.size_append, hsz]; omega)]
  congr 1
  have hmem := leb_mem _ (n := (w.size : Int)) (Nat.le_refl _) h0
  refine Prod.ext (byt_inj ?_) ?_
  · rw [byt_slice, byt_cat hmem, Int.toNat_natCast, byt_app]
    have hwl : (byt w).length = w.size := byt_length w
    rw [List.drop_take, List.drop_left' rfl, Nat.add_sub_cancel_left, List.take_left' hwl]
  · show (leb (w.size : Int)).length + (w.size : Int).toNat = (putB w).size
    rw [putB, ByteArray.size_append, hsz, Int.toNat_natCast]
theorem fix_back {n : Int} (h1 : -9223372036854775808 ≤ n) (h2 : n ≤ 9223372036854775807) : wrap64 (v256 (byt (strOfNums (fixB 8 n)))) = n := by
  rw [byt_strOfNums (fixB_byte 8 n), fixB_val]
  have : (256 : Int) ^ 8 = 18446744073709551616 := by decide
  rw [this, wrap64]
  omega
/-! ### hexadecimal digits -/
def hd (n : Int) : Int := if n < 10 then 48 + n else 87 + n
def hexL : List Int → List Int
  | [] => []
  | b :: r => hd (b / 16) :: hd (b % 16) :: hexL r
theorem hexL_len : ∀ l : List Int, (hexL l).length = 2 * l.length
  | [] => rfl
  | b :: r => by rw [hexL, List.length_cons, List.length_cons, hexL_len r, List.length_cons]; omega
theorem hexL_app : ∀ a b : List Int, hexL (a ++ b) = hexL a ++ hexL b
  | [], b => rfl
  | x :: a, b => by rw [List.cons_append, hexL, hexL_app a b, hexL]; rfl
theorem hexL_mem : ∀ {l : List Int}, (∀ x ∈ l, 0 ≤ x ∧ x ≤ 255) → ∀ x ∈ hexL l, 0 ≤ x ∧ x ≤ 255
  | [], _, x, hx => by simp [hexL] at hx
  | b :: r, h, x, hx => by
    have hb := h b (by simp)
    rw [hexL] at hx
    rcases List.mem_cons.1 hx with rfl | hx
    · unfold hd; split <;> omega
    · rcases List.mem_cons.1 hx with rfl | hx
      · unfold hd; split <;> omega
      · exact hexL_mem (fun y hy => h y (by simp [hy])) x hx
theorem hexL_take {l : List Int} {k : Nat} {b : Int} (h : l[k]? = some b) : hexL (l.take (k + 1)) = hexL (l.take k) ++ [hd (b / 16), hd (b % 16)] := by
  rw [List.take_add_one, h, hexL_app]
  rfl
theorem hexL_get : ∀ {l : List Int} {k : Nat} {b : Int}, l[k]? = some b → (hexL l)[2 * k]? = some (hd (b / 16)) ∧ (hexL l)[2 * k + 1]? = some (hd (b % 16))
  | [], k, b, h => by simp at h
  | x :: l, 0, b, h => by simp at h; subst h; exact ⟨rfl, rfl⟩
  | x :: l, k + 1, b, h => by
    have := hexL_get (l := l) (k := k) (b := b) (by simpa using h)
    rw [hexL, show 2 * (k + 1) = 2 * k + 2 by omega, show 2 * k + 2 + 1 = 2 * k + 1 + 2 by omega]
    exact ⟨by simpa using this.1, by simpa using this.2⟩
end Go.Proofs.Ytlkfaednolmfkaa

