/-
  A code point in UTF-16; a text in an encoding (by program: gen_enc.py).
-/
import Derived.Test.YtdmmiboefdbcdaaDoorFix
import Derived.Test.YtdmmiboefdbcdaaDoorPts
namespace Go.Proofs.YtdmmiboefdbcdaaDoor
open Go.RowKit
set_option linter.unusedVariables false
set_option linter.unusedSimpArgs false
set_option linter.unnecessarySimpa false
set_option maxRecDepth 16000

def utfB (n : Int) : List Int := if n < 65536 then fixB 2 n else fixB 2 (55296 + (n - 65536) / 1024) ++ fixB 2 (56320 + (n - 65536) % 1024)
theorem utfB_lo {n : Int} (h : n < 65536) : utfB n = fixB 2 n := if_pos h
theorem utfB_hi {n : Int} (h : ¬ n < 65536) : utfB n = fixB 2 (55296 + (n - 65536) / 1024) ++ fixB 2 (56320 + (n - 65536) % 1024) := if_neg h
theorem utfB_size (n : Int) : (strOfNums (utfB n)).size ≤ 4 := by
  rw [strOfNums_size, utfB]
  split <;> simp [fixB]
theorem utfB_byte (n : Int) : ∀ x ∈ utfB n, 0 ≤ x ∧ x ≤ 255 := by
  intro x hx
  rw [utfB] at hx
  split at hx
  · exact fixB_byte _ _ x hx
  · rcases List.mem_append.1 hx with h | h <;> exact fixB_byte _ _ x h
def encF (enc x : Int) : List Int := if enc = 2 then utfB x else [x]
theorem encF_one {enc : Int} (h : ¬ enc = 2) {x : Int} : encF enc x = [x] := if_neg h
def encO (enc : Int) (xs : List Int) : Option (List Int) := if enc = 2 ∨ ∀ x ∈ xs, x < 256 then some (xs.flatMap (encF enc)) else none
theorem encO_yes {enc : Int} {xs : List Int} (h : enc = 2 ∨ ∀ (j : Nat) (x : Int), xs[j]? = some x → x < 256) : encO enc xs = some (xs.flatMap (encF enc)) :=
  if_pos (h.imp id fun h x hx => by obtain ⟨j, hj⟩ := List.getElem?_of_mem hx; exact h j x hj)
theorem encO_no {enc : Int} {xs : List Int} {k : Nat} {x : Int} (h : ¬ enc = 2) (hx : xs[k]? = some x) (h2 : ¬ x < 256) : encO enc xs = none :=
  if_neg fun e => by
    rcases e with e | e
    · exact h e
    · exact h2 (e x (List.mem_of_getElem? hx))
/-- the bytes of a text, if it has any in the encoding -/
def encT (enc : Int) (s : ByteArray) : Option ByteArray := if enc = 1 then some s else (encO enc ((ptsQ (byt s)).getD [])).map strOfNums
theorem encT_eq {enc : Int} {s : ByteArray} {xs : List Int} (h : ¬ enc = 1) (hx : ptsQ (byt s) = some xs) : encT enc s = (encO enc xs).map strOfNums := by
  rw [encT, if_neg h, hx]; rfl
def encRes (o : Option ByteArray) : Ending := match o with
  | none => .returned (.tuple #[.string ⟨#[]⟩, .int .i64 19])
  | some t => .returned (.tuple #[.string t, .int .i64 0])
theorem fixB_one {x : Int} (h0 : 0 ≤ x) (h1 : x < 256) : fixB 1 x = [x] := by
  rw [fixB, fixB, Int.emod_eq_of_lt h0 h1]

set_option maxHeartbeats 1600000 in
theorem l11Pair_any (n : Int) (h : charOk n = true) (w : World) : Calls Tryd.prog 37 #[.int .i64 n] w fun e w' => e = .returned (.string (strOfNums (utfB n))) ∧ Below w.heap.size w w' := by
  have hr := charOk_rune h
  clear h
  by_cases h1 : n < 65536
  · have HP := Lib.hid (specPutFix_any n 2 (by omega) (by omega) (by omega) w)
    rw [utfB_lo h1]
    go_enter Tryd.func37, Tryd.ntmps37
    go_wp2_with fail
    refine HP.out.mono ?_
    rintro e w1 ⟨rfl, hb1⟩
    go_wp2_with fail
    go_ret
    exact ⟨rfl, hb1⟩
  · have HP := Lib.hid (specPutFix_any (55296 + (n - 65536) / 1024) 2 (by omega) (by omega) (by omega) w)
    have HQ := Lib.hid (fun W => specPutFix_any (56320 + (n - 65536) % 1024) 2 (by omega) (by omega) (by omega) W)
    have z1 : (strOfNums (fixB 2 (55296 + (n - 65536) / 1024))).size = 2 := strOfNums_size _
    have z2 : (strOfNums (fixB 2 (56320 + (n - 65536) % 1024))).size = 2 := strOfNums_size _
    have HU : Hid (strOfNums (fixB 2 (55296 + (n - 65536) / 1024)) ++ strOfNums (fixB 2 (56320 + (n - 65536) % 1024)) = strOfNums (utfB n)) := by show _ = _; rw [utfB_hi h1, strNums_cat]
    have ha := i64_and1023 (n - 65536)
    obtain ⟨a, ha1⟩ : ∃ a, a = strOfNums (fixB 2 (55296 + (n - 65536) / 1024)) := ⟨_, rfl⟩
    obtain ⟨b, hb1⟩ : ∃ b, b = strOfNums (fixB 2 (56320 + (n - 65536) % 1024)) := ⟨_, rfl⟩
    rw [← ha1] at HP HU z1
    rw [← hb1] at HQ HU z2
    clear ha1 hb1
    go_enter Tryd.func37, Tryd.ntmps37
    go_wp2_with fail
    refine HP.out.mono ?_
    rintro e w1 ⟨rfl, hb1⟩
    go_wp2_with fail
    refine (HQ.out w1).mono ?_
    rintro e w2 ⟨rfl, hb2⟩
    go_wp2_with fail
    go_ret
    exact ⟨ret_str HU.out, hb1.trans (hb2.mono hb1.size)⟩
set_option maxHeartbeats 1600000 in
theorem utf16_any (n : Int) (h : charOk n = true) (w : World) : Calls Tryd.prog 39 #[.int .i64 n] w fun e w' => e = .returned (.string (strOfNums (utfB n))) ∧ Below w.heap.size w w' := by
  have hr := charOk_rune h
  clear h
  by_cases h1 : n < 65536
  · have HP := Lib.hid (implPutFixI_any n 2 (by omega) (by omega) (by omega) w)
    rw [utfB_lo h1]
    go_enter Tryd.func39, Tryd.ntmps39
    go_wp2_with fail
    refine HP.out.mono ?_
    rintro e w1 ⟨rfl, hb1⟩
    go_wp2_with fail
    go_ret
    exact ⟨rfl, hb1⟩
  · have HP := Lib.hid (implPutFixI_any (55296 + (n - 65536) / 1024) 2 (by omega) (by omega) (by omega) w)
    have HQ := Lib.hid (fun W => implPutFixI_any (56320 + (n - 65536) % 1024) 2 (by omega) (by omega) (by omega) W)
    have z1 : (strOfNums (fixB 2 (55296 + (n - 65536) / 1024))).size = 2 := strOfNums_size _
    have z2 : (strOfNums (fixB 2 (56320 + (n - 65536) % 1024))).size = 2 := strOfNums_size _
    have HU : Hid (strOfNums (fixB 2 (55296 + (n - 65536) / 1024)) ++ strOfNums (fixB 2 (56320 + (n - 65536) % 1024)) = strOfNums (utfB n)) := by show _ = _; rw [utfB_hi h1, strNums_cat]
    have ha := i64_and1023 (n - 65536)
    obtain ⟨a, ha1⟩ : ∃ a, a = strOfNums (fixB 2 (55296 + (n - 65536) / 1024)) := ⟨_, rfl⟩
    obtain ⟨b, hb1⟩ : ∃ b, b = strOfNums (fixB 2 (56320 + (n - 65536) % 1024)) := ⟨_, rfl⟩
    rw [← ha1] at HP HU z1
    rw [← hb1] at HQ HU z2
    clear ha1 hb1
    go_enter Tryd.func39, Tryd.ntmps39
    go_wp2_with fail
    refine HP.out.mono ?_
    rintro e w1 ⟨rfl, hb1⟩
    go_wp2_with fail
    refine (HQ.out w1).mono ?_
    rintro e w2 ⟨rfl, hb2⟩
    go_wp2_with fail
    go_ret
    exact ⟨ret_str HU.out, hb1.trans (hb2.mono hb1.size)⟩
set_option maxHeartbeats 3200000 in
theorem l11Encode_any (enc : Int) (s : ByteArray) (xs : List Int) (henc : enc = 1 ∨ enc = 2 ∨ enc = 3) (hx : ptsQ (byt s) = some xs) (hs : s.size ≤ 24) (w : World) : Calls Tryd.prog 26 #[.int .i64 enc, .string s] w fun e w' => e = encRes (encT enc s) ∧ Below w.heap.size w w' := by
  by_cases he1 : enc = 1
  case pos =>
    subst he1
    have HF : Hid (encRes (encT 1 s) = .returned (.tuple #[.string s, .int .i64 0])) := rfl
    go_enter Tryd.func26, Tryd.ntmps26
    go_wp2_with fail
    go_ret2
    exact ⟨HF.out.symm, Below.refl _ _⟩
  have hne1 : (enc == 1) = false := by simpa using he1
  have HET := Lib.hid (encT_eq he1 hx)
  obtain ⟨hok, hen⟩ := ptsQ_iff.1 hx
  have HOK := Lib.hid hok
  have hxl := enc_le hen
  rw [byt_length] at hxl
  clear hok hen
  have HP := Lib.hid (l04Points_any s (by omega) w)
  rw [hx] at HP
  clear hx
  go_enter Tryd.func26, Tryd.ntmps26
  go_wp2_with fail
  refine HP.out.mono ?_
  rintro e w1 ⟨⟨u, n, rfl, ho⟩, hb1⟩
  obtain ⟨uA, uN, uC, rfl, _⟩ := (Own.of_own ho).form
  have hun : uN = n := owns_n ho
  subst hun
  have hrd := Rd.of_own ho
  have hnl : uN = xs.length := by have := hrd.1; simp at this; omega
  have hat := hrd.2
  have hm : uN ≤ 24 := by omega
  have HN := Lib.hid hnl
  clear hrd ho hnl
  go_wp2_with fail
  go_loopw [8, 9] (fun sv i wr => ∃ (k : Nat) (z : ByteArray), k ≤ uN ∧ sv = .string z ∧ i = .int .i64 k ∧ z.size ≤ 4 * k ∧ Hid (z = strOfNums ((xs.take k).flatMap (encF enc))) ∧ Hid (enc = 2 ∨ ∀ (j : Nat) (x : Int), j < k → xs[j]? = some x → x < 256) ∧ Below w1.heap.size w1 wr) (fun _ i _ => uN - (intOf i).toNat)
  case atStart => exact ⟨0, _, Nat.zero_le _, rfl, rfl, by decide, Lib.hid rfl, Lib.hid (.inr fun j x h => absurd h (by omega)), Below.refl _ _⟩
  case round =>
    obtain ⟨k, z, hk, rfl, rfl, hz, HZ, HA, hbr⟩ := hrel
    have hB := hb1.trans (hbr.mono hb1.size)
    by_cases hlt : k < uN
    case neg =>
      have hkn : k = uN := by omega
      have HF : Hid (encRes (encT enc s) = .returned (.tuple #[.string z, .int .i64 0])) := by
        show _ = _
        have hall : xs.take k = xs := List.take_of_length_le (by have := HN.out; omega)
        have h1 := HZ.out
        rw [hall] at h1
        have h2 : encO enc xs = some (xs.flatMap (encF enc)) := encO_yes (by rcases HA.out with h | h; exact .inl h; exact .inr fun j x hx => h j x (by have := (List.getElem?_eq_some_iff.1 hx).1; have := HN.out; omega) hx)
        rw [HET.out, h2, h1]; rfl
      go_wp2_with fail
      go_ret2
      exact ⟨HF.out.symm, hB⟩
    obtain ⟨g, off, rfl, hg, hc1⟩ := hat (by omega)
    obtain ⟨x, hx, hmem⟩ := at_lt HN.out hlt
    have hcx : _ = some (Value.int .i64 x) := (hbr.cell (by exact (by omega : g < w1.heap.size))).trans (hc1 k _ (i64s_at hx))
    have hco := HOK.out x hmem
    have hxr := charOk_rune hco
    have HX := Lib.hid hx
    clear hx hc1 hmem hat
    have HZ2 : Hid (z ++ strOfNums (encF enc x) = strOfNums ((xs.take (k + 1)).flatMap (encF enc))) := by
      show _ = _
      rw [List.take_add_one, HX.out, Option.toList_some, List.flatMap_append, HZ.out, strNums_cat]; simp
    have hzb : z.size ≤ 96 := by omega
    by_cases he2 : enc = 2
    case pos =>
      subst he2
      have HPR := Lib.hid (fun W => l11Pair_any x hco W)
      rw [show encF 2 x = utfB x from rfl] at HZ2
      have hul := utfB_size x
      obtain ⟨us, hus⟩ : ∃ us, us = strOfNums (utfB x) := ⟨_, rfl⟩
      rw [← hus] at HPR HZ2 hul
      clear hus hco
      go_wp2_with fail
      refine (HPR.out _).mono ?_
      rintro e w2 ⟨rfl, hb2⟩
      have hB2 := hbr.trans (hb2.mono hbr.size)
      go_wp2_with fail
      go_roundw
      case rel => exact ⟨k + 1, _, by omega, rfl, by go_num, by rw [ByteArray.size_append]; omega, HZ2, by first | exact Lib.hid (.inl rfl) | exact Lib.hid (.inl trivial), hB2⟩
      case measure => simp [intOf]; omega
    have hne2 : (enc == 2) = false := by simpa using he2
    by_cases h255 : x < 256
    case neg =>
      have h255' : (255 : Int) < x := by omega
      have HF : Hid (encRes (encT enc s) = .returned (.tuple #[.string ⟨#[]⟩, .int .i64 19])) := by
        show _ = _
        rw [HET.out, encO_no he2 HX.out h255]; rfl
      go_wp2_with fail
      go_ret2
      exact ⟨HF.out.symm, hB⟩
    rw [encF_one he2] at HZ2
    have HA2 : Hid (enc = 2 ∨ ∀ (j : Nat) (y : Int), j < k + 1 → xs[j]? = some y → y < 256) := .inr fun j y hj hy => by
      rcases Nat.lt_succ_iff_lt_or_eq.1 hj with h | rfl
      · rcases HA.out with h2 | h2
        · exact absurd h2 he2
        · exact h2 j y h hy
      · rw [HX.out] at hy; cases hy; exact h255
    have hus1 : (strOfNums [x]).size = 1 := strOfNums_size _
    have hsl := strLit wr [x] 1 #[.int .u8 x] rfl rfl
    have hw8 : IntKind.u8.wrap x = x := by rw [IntKind.wrap_u8]; omega
    have h255' : ¬ (255 : Int) < x := by omega
    have hB2 : Below w1.heap.size w1 (wr.alloc (.cells #[.int .u8 x] 5)) := hbr.alloc hbr.size _
    obtain ⟨us, hus⟩ : ∃ us, us = strOfNums [x] := ⟨_, rfl⟩
    rw [← hus] at hsl HZ2 hus1
    clear hus hco
    go_wp2_with fail
    go_roundw
    case rel => exact ⟨k + 1, _, by omega, rfl, by go_num, by rw [ByteArray.size_append]; omega, HZ2, HA2, hB2⟩
    case measure => simp [intOf]; omega
set_option maxHeartbeats 3200000 in
theorem encode_any (enc : Int) (s : ByteArray) (xs : List Int) (henc : enc = 1 ∨ enc = 2 ∨ enc = 3) (hx : ptsQ (byt s) = some xs) (hs : s.size ≤ 24) (w : World) : Calls Tryd.prog 28 #[.int .i64 enc, .string s] w fun e w' => e = encRes (encT enc s) ∧ Below w.heap.size w w' := by
  by_cases he1 : enc = 1
  case pos =>
    subst he1
    have HF : Hid (encRes (encT 1 s) = .returned (.tuple #[.string s, .int .i64 0])) := rfl
    go_enter Tryd.func28, Tryd.ntmps28
    go_wp2_with fail
    go_ret2
    exact ⟨HF.out.symm, Below.refl _ _⟩
  have hne1 : (enc == 1) = false := by simpa using he1
  have HET := Lib.hid (encT_eq he1 hx)
  obtain ⟨hok, hen⟩ := ptsQ_iff.1 hx
  have HOK := Lib.hid hok
  have hxl := enc_le hen
  rw [byt_length] at hxl
  clear hok hen
  have HP := Lib.hid (pointsOf_any s xs hx (by omega) w)
  clear hx
  go_enter Tryd.func28, Tryd.ntmps28
  go_wp2_with fail
  refine HP.out.mono ?_
  rintro e w1 ⟨u, n, rfl, ho, hb1⟩
  obtain ⟨uA, uN, uC, rfl, _⟩ := (Own.of_own ho).form
  have hun : uN = n := owns_n ho
  subst hun
  have hrd := Rd.of_own ho
  have hnl : uN = xs.length := by have := hrd.1; simp at this; omega
  have hat := hrd.2
  have hm : uN ≤ 24 := by omega
  have HN := Lib.hid hnl
  clear hrd ho hnl
  go_wp2_with fail
  go_loopw [6, 15] (fun sv i wr => ∃ (k : Nat) (z : ByteArray), k ≤ uN ∧ sv = .string z ∧ i = .int .i64 k ∧ z.size ≤ 4 * k ∧ Hid (z = strOfNums ((xs.take k).flatMap (encF enc))) ∧ Hid (enc = 2 ∨ ∀ (j : Nat) (x : Int), j < k → xs[j]? = some x → x < 256) ∧ Below w1.heap.size w1 wr) (fun _ i _ => uN - (intOf i).toNat)
  case atStart => exact ⟨0, _, Nat.zero_le _, rfl, rfl, by decide, Lib.hid rfl, Lib.hid (.inr fun j x h => absurd h (by omega)), Below.refl _ _⟩
  case round =>
    obtain ⟨k, z, hk, rfl, rfl, hz, HZ, HA, hbr⟩ := hrel
    have hB := hb1.trans (hbr.mono hb1.size)
    by_cases hlt : k < uN
    case neg =>
      have hkn : k = uN := by omega
      have HF : Hid (encRes (encT enc s) = .returned (.tuple #[.string z, .int .i64 0])) := by
        show _ = _
        have hall : xs.take k = xs := List.take_of_length_le (by have := HN.out; omega)
        have h1 := HZ.out
        rw [hall] at h1
        have h2 : encO enc xs = some (xs.flatMap (encF enc)) := encO_yes (by rcases HA.out with h | h; exact .inl h; exact .inr fun j x hx => h j x (by have := (List.getElem?_eq_some_iff.1 hx).1; have := HN.out; omega) hx)
        rw [HET.out, h2, h1]; rfl
      go_wp2_with fail
      go_ret2
      exact ⟨HF.out.symm, hB⟩
    obtain ⟨g, off, rfl, hg, hc1⟩ := hat (by omega)
    obtain ⟨x, hx, hmem⟩ := at_lt HN.out hlt
    have hcx : _ = some (Value.int .i64 x) := (hbr.cell (by exact (by omega : g < w1.heap.size))).trans (hc1 k _ (i64s_at hx))
    have hco := HOK.out x hmem
    have hxr := charOk_rune hco
    have HX := Lib.hid hx
    clear hx hc1 hmem hat
    have HZ2 : Hid (z ++ strOfNums (encF enc x) = strOfNums ((xs.take (k + 1)).flatMap (encF enc))) := by
      show _ = _
      rw [List.take_add_one, HX.out, Option.toList_some, List.flatMap_append, HZ.out, strNums_cat]; simp
    have hzb : z.size ≤ 96 := by omega
    by_cases he2 : enc = 2
    case pos =>
      subst he2
      have HPR := Lib.hid (fun W => utf16_any x hco W)
      rw [show encF 2 x = utfB x from rfl] at HZ2
      have hul := utfB_size x
      obtain ⟨us, hus⟩ : ∃ us, us = strOfNums (utfB x) := ⟨_, rfl⟩
      rw [← hus] at HPR HZ2 hul
      clear hus hco
      go_wp2_with fail
      refine (HPR.out _).mono ?_
      rintro e w2 ⟨rfl, hb2⟩
      have hB2 := hbr.trans (hb2.mono hbr.size)
      go_wp2_with fail
      go_roundw
      case rel => exact ⟨k + 1, _, by omega, rfl, by go_num, by rw [ByteArray.size_append]; omega, HZ2, by first | exact Lib.hid (.inl rfl) | exact Lib.hid (.inl trivial), hB2⟩
      case measure => simp [intOf]; omega
    have hne2 : (enc == 2) = false := by simpa using he2
    by_cases h255 : x < 256
    case neg =>
      have h255' : (255 : Int) < x := by omega
      have HF : Hid (encRes (encT enc s) = .returned (.tuple #[.string ⟨#[]⟩, .int .i64 19])) := by
        show _ = _
        rw [HET.out, encO_no he2 HX.out h255]; rfl
      go_wp2_with fail
      go_ret2
      exact ⟨HF.out.symm, hB⟩
    rw [encF_one he2] at HZ2
    have HA2 : Hid (enc = 2 ∨ ∀ (j : Nat) (y : Int), j < k + 1 → xs[j]? = some y → y < 256) := .inr fun j y hj hy => by
      rcases Nat.lt_succ_iff_lt_or_eq.1 hj with h | rfl
      · rcases HA.out with h2 | h2
        · exact absurd h2 he2
        · exact h2 j y h hy
      · rw [HX.out] at hy; cases hy; exact h255
    have hus1 : (strOfNums [x]).size = 1 := strOfNums_size _
    have HPF := Lib.hid (fun W => implPutFixI_any x 1 (by omega) (by omega) (by omega) W)
    rw [fixB_one (by omega) h255] at HPF
    obtain ⟨us, hus⟩ : ∃ us, us = strOfNums [x] := ⟨_, rfl⟩
    rw [← hus] at HPF HZ2 hus1
    clear hus hco
    go_wp2_with fail
    refine (HPF.out _).mono ?_
    rintro e w2 ⟨rfl, hb2⟩
    have hB2 := hbr.trans (hb2.mono hbr.size)
    go_wp2_with fail
    go_roundw
    case rel => exact ⟨k + 1, _, by omega, rfl, by go_num, by rw [ByteArray.size_append]; omega, HZ2, HA2, hB2⟩
    case measure => simp [intOf]; omega
end Go.Proofs.YtdmmiboefdbcdaaDoor

