/-
  TextOf: spec.TextOf and impl.TextOf return the same text, and the same bool.
-/
import Derived.Test.YtdmmiboefdbcdaaDoorApp
import Derived.Below
namespace Go.Proofs.YtdmmiboefdbcdaaDoor
open Go.RowKit
set_option linter.unusedVariables false
set_option linter.unusedSimpArgs false
set_option linter.unnecessarySimpa false

def u8s (xs : List Int) : List Value := xs.map (Value.int .u8)
def textOk (xs : List Int) : Bool := xs.all charOk && decide ((encs xs).length ≤ 24)
def textStr (xs : List Int) : ByteArray := if textOk xs then strOfNums (encs xs) else ⟨#[]⟩

theorem encs_succ {xs : List Int} {k : Nat} {x : Int} (h : xs[k]? = some x) : encs (xs.take (k + 1)) = encs (xs.take k) ++ Lib.encodeRuneZ x := by
  rw [List.take_add_one, h]; simp [encs]
theorem encs_len (xs : List Int) : xs.length ≤ (encs xs).length := by
  induction xs with
  | nil => simp
  | cons x xs ih =>
    have := (Lib.encodeRuneZ_length x).1
    have e : encs (x :: xs) = Lib.encodeRuneZ x ++ encs xs := rfl
    rw [e, List.length_append, List.length_cons]; omega
theorem encs_le4 (xs : List Int) : (encs xs).length ≤ 4 * xs.length := by
  induction xs with
  | nil => simp [encs]
  | cons x xs ih =>
    have := (Lib.encodeRuneZ_length x).2
    have e : encs (x :: xs) = Lib.encodeRuneZ x ++ encs xs := rfl
    rw [e, List.length_append, List.length_cons]; omega
theorem encs_take_le (xs : List Int) (k : Nat) : (encs (xs.take k)).length ≤ (encs xs).length := by
  have e : encs xs = encs (xs.take k) ++ encs (xs.drop k) := by
    unfold encs; rw [← List.flatMap_append, List.take_append_drop]
  rw [e, List.length_append]; omega
theorem strNums_append (a b : List Int) : strOfNums a ++ strOfNums b = strOfNums (a ++ b) := by
  simp [strOfNums, ByteArray.ext_iff]

theorem text_bad {xs : List Int} {k : Nat} {x : Int} (hk : xs[k]? = some x) (h : charOk x = false) : textOk xs = false := by
  simp only [textOk, all_false hk h, Bool.false_and]
theorem text_long {xs : List Int} (k : Nat) (h : 24 < (encs (xs.take k)).length) : textOk xs = false := by
  have := encs_take_le xs k
  have e : decide ((encs xs).length ≤ 24) = false := decide_eq_false (by omega)
  simp only [textOk, e, Bool.and_false]
theorem text_good {xs : List Int} (h : ∀ (j : Nat) (x : Int), xs[j]? = some x → charOk x = true) (hl : (encs xs).length ≤ 24) : textOk xs = true := by
  simp only [textOk, all_true h, decide_eq_true hl, Bool.and_self]
theorem textStr_no {xs : List Int} (h : textOk xs = false) : textStr xs = ⟨#[]⟩ := by simp [textStr, h]
theorem textStr_yes {xs : List Int} (h : textOk xs = true) : textStr xs = strOfNums (encs xs) := by simp [textStr, h]
theorem ret_sb {a a' : ByteArray} {b b' : Bool} (h1 : a = a') (h2 : b = b') : Ending.returned (.tuple #[.string a, .bool b]) = .returned (.tuple #[.string a', .bool b']) := by rw [h1, h2]
theorem ret_text_no {xs : List Int} (h : textOk xs = false) : Ending.returned (.tuple #[.string ⟨#[]⟩, .bool false]) = .returned (.tuple #[.string (textStr xs), .bool (textOk xs)]) := by rw [textStr_no h, h]
theorem ret_text_yes {xs : List Int} (h : textOk xs = true) : Ending.returned (.tuple #[.string (strOfNums (encs xs)), .bool true]) = .returned (.tuple #[.string (textStr xs), .bool (textOk xs)]) := by rw [textStr_yes h, h]

theorem owF_form {w : World} {B : Nat} {e : TypeId} {v : Value} {m : Nat} {cs : List Value} (h : w.ownsRowF B e 1 v m cs) : ∃ A c, v = .slice A m c ∧ cs.length = m ∧ m ≤ c ∧ c ≤ maxLen := by
  rcases h.2 with ⟨rfl, rfl⟩ | ⟨g, cap, cur, fz, rfl, _, _, _, h1, h2, _⟩
  · exact ⟨none, 0, rfl, by simpa using h.1, Nat.le_refl _, by unfold maxLen; omega⟩
  · exact ⟨some ⟨g, 0, none⟩, cap, rfl, by simpa using h.1, h1, h2⟩

/-- 'string(b)' of a row of the call's own -/
theorem str_own {w : World} {B m c : Nat} {A : Option Addr} {zs : List Int} (h : w.ownsRowF B 5 1 (.slice A m c) m (u8s zs)) :
    (convert 43 9 (.slice A m c)).run Tryd.prog w = .ok (.string (strOfNums zs)) w := by
  have hlz : zs.length = m := by simpa [u8s] using h.1
  rcases h.2 with ⟨e, h0⟩ | ⟨g, cap, cur, fz, e, h0⟩
  · injection e with e1 e2 e3
    subst e1 e2 e3
    have : zs = [] := List.length_eq_zero_iff.1 hlz
    subst this
    exact run_convert_bytes_nil _ _ _ Tryd.underlying43 Tryd.underlying5 _ _ _ Tryd.underlying9
  · injection e with e1 e2 e3
    subst e1 e3
    refine run_convert_bytes_arg _ _ _ Tryd.underlying43 Tryd.underlying5 _ 0 _ _ zs hlz (fun i hi => ?_) _ Tryd.underlying9
    have hi' : i < zs.length := by omega
    have := h.cells (g := g) rfl i (.int .u8 (zs[i])) (by simp [u8s, hi'])
    have e : (⟨g, 0, none⟩ : Addr).add i = ⟨g, 0 + i, none⟩ := by unfold Addr.add; split <;> simp_all
    rw [e] at this
    simpa [hi'] using this

theorem specTextOf_any (A : Option Addr) (n c B : Nat) (xs : List Int) (w : World) (hB : B ≤ w.heap.size) (hn : n ≤ maxLen) (h : RdI w B A n xs) :
    Calls Tryd.prog 41 #[.slice A n c] w fun e w' => e = .returned (.tuple #[.string (textStr xs), .bool (textOk xs)]) ∧ Below w.heap.size w w' := by
  unfold maxLen at hn
  have hat := fun (h0 : 0 < n) => h.at_ h0
  have HN := Lib.hid h.1
  clear h
  go_enter Tryd.func41, Tryd.ntmps41
  go_wp2_with fail
  go_loopw [4, 5] (fun s i wr => ∃ (k : Nat) (z : ByteArray), k ≤ n ∧ k ≤ 25 ∧ s = .string z ∧ i = .int .i64 k ∧ z = strOfNums (encs (xs.take k)) ∧ (∀ (j : Nat) (x : Int), j < k → xs[j]? = some x → charOk x = true) ∧ Below w.heap.size w wr) (fun _ i _ => n - (intOf i).toNat)
  case atStart => exact ⟨0, _, Nat.zero_le _, Nat.zero_le _, rfl, rfl, rfl, fun j x h => absurd h (by omega), Below.refl _ _⟩
  case round =>
    obtain ⟨k, z, hk, hk5, rfl, rfl, hz, hpre, hb⟩ := hrel
    have HP := Lib.hid hpre
    have HZ := Lib.hid hz
    have hzl : z.size = (encs (xs.take k)).length := by rw [hz]; exact strOfNums_size _
    have hkl : k ≤ (encs (xs.take k)).length := by have := encs_len (xs.take k); have := HN.out; simp at *; omega
    have hm4 : (encs (xs.take k)).length ≤ 100 := by have := encs_le4 (xs.take k); have := List.length_take_le k xs; omega
    clear hpre hz
    obtain ⟨m, hm⟩ : ∃ m, m = (encs (xs.take k)).length := ⟨_, rfl⟩
    rw [← hm] at hzl hkl hm4
    have HM := Lib.hid hm
    clear hm
    by_cases hlt : k < n
    · by_cases h25 : k ≤ 24
      · obtain ⟨g, off, rfl, hg, hc1⟩ := hat (by omega)
        obtain ⟨x, hx, _⟩ := at_lt HN.out hlt
        have hcx : _ = some (Value.int .i64 x) := (hb.cell (by exact (by omega : g < w.heap.size))).trans (hc1 k x hx)
        have HX := Lib.hid hx
        clear hx hc1
        cases hbo : charOk x
        · go_wp2_with (first | (go_at_call 46; refine (specCharOk_any _ _).mono ?_; rintro e w' ⟨rfl, rfl⟩))
          go_ret2
          exact ⟨ret_text_no (text_bad HX.out hbo), hb⟩
        · have hcs : (strOfNums (Lib.encodeRuneZ x)).size ≤ 4 := by rw [strOfNums_size]; exact (Lib.encodeRuneZ_length x).2
          go_wp2_with (first | (go_at_call 46; refine (specCharOk_any _ _).mono ?_; rintro e w' ⟨rfl, rfl⟩) | (go_at_call 47; refine (l04Char_any _ hbo _).mono ?_; rintro e w' ⟨rfl, hb'⟩))
          go_round
          case rel =>
            refine ⟨k + 1, _, by omega, by omega, rfl, by go_num, ?_, fun j y hj hy => ?_, hb.trans (hb'.mono hb.size)⟩
            · rw [encs_succ HX.out, ← strNums_append, HZ.out]
            · by_cases e : j = k
              · subst e
                have := HX.out
                rw [hy] at this
                injection this with this
                rw [this]; exact hbo
              · exact HP.out j y (by omega) hy
          case measure => simp [intOf]; omega
      · have hbig : (24 : Int) < (z.size : Int) := by omega
        go_wp2_with fail
        go_ret2
        exact ⟨ret_text_no (text_long k (by have := HM.out; omega)), hb⟩
    · have hkn : k = n := by omega
      subst hkn
      have hall : xs.take k = xs := List.take_of_length_le (by have := HN.out; omega)
      have HA := Lib.hid hall
      clear hall
      by_cases hbig : (24 : Int) < (z.size : Int)
      · go_wp2_with fail
        go_ret2
        exact ⟨ret_text_no (text_long k (by have := HM.out; omega)), hb⟩
      · go_wp2_with fail
        go_ret2
        have hgood : textOk xs = true := text_good (fun j x hx => HP.out j x (by have := (List.getElem?_eq_some_iff.1 hx).1; have := HN.out; omega) hx) (by have h1 := HM.out; rw [HA.out] at h1; omega)
        have hzz := HZ.out
        rw [HA.out] at hzz
        rw [hzz]
        exact ⟨ret_text_yes hgood, hb⟩

theorem implTextOf_any (A : Option Addr) (n c B : Nat) (xs : List Int) (w : World) (hB : B ≤ w.heap.size) (hn : n ≤ maxLen) (h : RdI w B A n xs) :
    Calls Tryd.prog 45 #[.slice A n c] w fun e w' => e = .returned (.tuple #[.string (textStr xs), .bool (textOk xs)]) ∧ Below w.heap.size w w' := by
  unfold maxLen at hn
  have hat := fun (h0 : 0 < n) => h.at_ h0
  have HN := Lib.hid h.1
  clear h
  go_enter Tryd.func45, Tryd.ntmps45
  go_wp2_with fail
  go_loopw [4, 10] (fun b i wr => ∃ k m : Nat, k ≤ n ∧ m ≤ 28 ∧ i = .int .i64 k ∧ wr.ownsRowF w.heap.size 5 1 b m (u8s (encs (xs.take k))) ∧ (∀ (j : Nat) (x : Int), j < k → xs[j]? = some x → charOk x = true) ∧ Below w.heap.size w wr) (fun _ i _ => n - (intOf i).toNat)
  case atStart => exact ⟨0, 0, Nat.zero_le _, by omega, rfl, World.ownsRowF_of (World.ownsRow_made _ _ 0 (Nat.le_refl _) (by unfold maxLen; omega) rfl), fun j x h => absurd h (by omega), (Below.refl _ _).alloc (Nat.le_refl _) _⟩
  case round =>
    obtain ⟨k, m, hk, hm28, rfl, hown, hpre, hb⟩ := hrel
    obtain ⟨A', c', rfl, hlm, hmc, hcm⟩ := owF_form hown
    rw [u8s, List.length_map] at hlm
    have HO := Lib.hid hown
    have HP := Lib.hid hpre
    have HM := Lib.hid hlm
    clear hpre hown hlm
    unfold maxLen at hcm
    by_cases hlt : k < n
    · obtain ⟨g, off, rfl, hg, hc1⟩ := hat (by omega)
      obtain ⟨x, hx, _⟩ := at_lt HN.out hlt
      have hcx : _ = some (Value.int .i64 x) := (hb.cell (by exact (by omega : g < w.heap.size))).trans (hc1 k x hx)
      have HX := Lib.hid hx
      clear hx hc1
      cases hbo : charOk x
      · go_wp2_with (first | (go_at_call 52; refine (implCharOk_any _ _).mono ?_; rintro e w' ⟨rfl, rfl⟩))
        go_ret2
        exact ⟨ret_text_no (text_bad HX.out hbo), hb⟩
      · by_cases hbig : (24 : Int) < (m : Int)
        · go_wp2_with (first | (go_at_call 52; refine (implCharOk_any _ _).mono ?_; rintro e w' ⟨rfl, rfl⟩))
          go_ret2
          exact ⟨ret_text_no (text_long k (by have := HM.out; omega)), hb⟩
        · have hxr := charOk_rune hbo
          have e1 : IntKind.i32.wrap x = x := by rw [IntKind.wrap_i32]; omega
          have hle := Lib.encodeRuneZ_length x
          go_wp2_with (first | (go_at_call 52; refine (implCharOk_any _ _).mono ?_; rintro e w' ⟨rfl, rfl⟩) | (go_at_call 53; refine (appendRune_any w.heap.size _ m (u8s (encs (xs.take k))) x (by omega) (by omega) _ HO.out (by omega) hb.size).mono ?_; rintro e w' ⟨v', rfl, hown', o, hgr⟩))
          go_round
          case rel =>
            refine ⟨k + 1, m + (Lib.runeCells x).length, by omega, ?_, by go_num, ?_, fun j y hj hy => ?_, ?_⟩
            · have : (Lib.runeCells x).length = (Lib.encodeRuneZ x).length := by simp [Lib.runeCells]
              omega
            · rw [encs_succ HX.out, u8s, List.map_append]; exact hown'
            · by_cases e : j = k
              · subst e
                have := HX.out
                rw [hy] at this
                injection this with this
                rw [this]; exact hbo
              · exact HP.out j y (by omega) hy
            · exact (hb.alloc hb.size o).grown hgr (by have := hb.size; simp; omega) (fun q hq => (HO.out.lt q hq).1)
          case measure => simp [intOf]; omega
    · have hkn : k = n := by omega
      subst hkn
      have hall : xs.take k = xs := List.take_of_length_le (by have := HN.out; omega)
      have HA := Lib.hid hall
      clear hall
      by_cases hbig : (24 : Int) < (m : Int)
      · go_wp2_with fail
        go_ret2
        exact ⟨ret_text_no (text_long k (by have := HM.out; omega)), hb⟩
      · have hst := str_own HO.out
        go_wp2_with fail
        go_ret2
        have h1 := HM.out
        rw [HA.out] at h1
        have hgood : textOk xs = true := text_good (fun j x hx => HP.out j x (by have := (List.getElem?_eq_some_iff.1 hx).1; have := HN.out; omega) hx) (by omega)
        rw [HA.out]
        exact ⟨ret_text_yes hgood, hb⟩
end Go.Proofs.YtdmmiboefdbcdaaDoor
