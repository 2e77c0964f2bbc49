/-
  Encode, UnitsOf (by program: gen_encok.py).
-/
import Derived.Test.YtdmmiboefdbcdaaDoorEnc
namespace Go.Proofs.YtdmmiboefdbcdaaDoor
open Go.RowKit
set_option linter.unusedVariables false
set_option linter.unusedSimpArgs false
set_option linter.unnecessarySimpa false
set_option maxRecDepth 16000

theorem specEnOk_any (n : Int) (w : World) :
    Calls Tryd.prog 24 #[.int .i64 n] w fun e w' => e = .returned (.bool (inB n 1 3)) ∧ w = w' := by
  go_enter Tryd.func24, Tryd.ntmps24
  go_wp2_with (first | (go_at_call 36; refine (l00In_any _ _ _ _).mono ?_; rintro e w' ⟨rfl, rfl⟩))
  go_ret
  exact ⟨rfl, rfl⟩
theorem implEnOk_any (n : Int) (w : World) :
    Calls Tryd.prog 27 #[.int .i64 n] w fun e w' => e = .returned (.bool (inB n 1 3)) ∧ w = w' := by
  go_enter Tryd.func27, Tryd.ntmps27
  go_wp2_with (first | (go_at_call 38; refine (within_any _ _ _ _).mono ?_; rintro e w' ⟨rfl, rfl⟩))
  go_ret
  exact ⟨rfl, rfl⟩
def encR (n : Int) (s : ByteArray) : ByteArray × Int :=
  if (inB n 1 3 && (decide (s.size ≤ 24) && (ptsQ (byt s)).isSome)) = true then (match encT n s with | none => (⟨#[]⟩, 19) | some t => (t, 0)) else (⟨#[]⟩, 1)
theorem encR_no {n : Int} {s : ByteArray} (h : (inB n 1 3 && (decide (s.size ≤ 24) && (ptsQ (byt s)).isSome)) = false) : encR n s = (⟨#[]⟩, 1) := by
  rw [encR, h]; rfl
theorem encR_res {n : Int} {s : ByteArray} (h : (inB n 1 3 && (decide (s.size ≤ 24) && (ptsQ (byt s)).isSome)) = true) : encRes (encT n s) = .returned (.tuple #[.string (encR n s).1, .int .i64 (encR n s).2]) := by
  rw [encR, if_pos h]
  cases encT n s <;> rfl
theorem text_yes {s : ByteArray} (h : (decide (s.size ≤ 24) && (ptsQ (byt s)).isSome) = true) : ∃ xs, ptsQ (byt s) = some xs ∧ s.size ≤ 24 := by
  rw [Bool.and_eq_true, decide_eq_true_iff] at h
  obtain ⟨xs, hx⟩ := Option.isSome_iff_exists.1 h.2
  exact ⟨xs, hx, h.1⟩
def usz (n : Int) : Int := if n = 2 then 2 else 1
def unitR (n : Int) (s : ByteArray) : Int × Int := if (encR n s).2 = 0 then (((encR n s).1.size : Int).tdiv (usz n), 0) else (0, (encR n s).2)
theorem unitR_eq (n : Int) (s : ByteArray) : unitR n s = if (encR n s).2 = 0 then (((encR n s).1.size : Int).tdiv (usz n), 0) else (0, (encR n s).2) := rfl
theorem flat_size {enc : Int} : ∀ xs : List Int, (xs.flatMap (encF enc)).length ≤ 4 * xs.length
  | [] => by simp
  | x :: xs => by
    have := flat_size (enc := enc) xs
    have h : (encF enc x).length ≤ 4 := by
      rw [encF]
      split
      · have := utfB_size x; rwa [strOfNums_size] at this
      · simp
    rw [List.flatMap_cons, List.length_append, List.length_cons]
    omega
theorem encT_size {n : Int} {s t : ByteArray} {xs : List Int} (hx : ptsQ (byt s) = some xs) (hs : s.size ≤ 24) (h : encT n s = some t) : t.size ≤ 96 := by
  rw [encT] at h
  split at h
  · cases h; omega
  · rw [hx] at h
    obtain ⟨l, hl, rfl⟩ := Option.map_eq_some_iff.1 h
    rw [encO] at hl
    split at hl
    · cases hl
      rw [strOfNums_size]
      have h1 := flat_size (enc := n) xs
      have h2 := enc_le (ptsQ_iff.1 hx).2
      rw [byt_length] at h2
      simp only [Option.getD_some]
      omega
    · cases hl
theorem encR_code (n : Int) (s : ByteArray) (h0 : (encR n s).2 = 0) : (n = 1 ∨ n = 2 ∨ n = 3) ∧ (encR n s).1.size ≤ 96 := by
  by_cases h : (inB n 1 3 && (decide (s.size ≤ 24) && (ptsQ (byt s)).isSome)) = true
  · have h' := h
    rw [Bool.and_eq_true] at h'
    have hn := inB_iff.1 h'.1
    obtain ⟨xs, hx, hs⟩ := text_yes h'.2
    refine ⟨by omega, ?_⟩
    rw [encR, if_pos h]
    cases he : encT n s with
    | none => decide
    | some t => exact encT_size hx hs he
  · rw [encR_no (by simpa using h)] at h0
    exact absurd h0 (by decide)

theorem specEnc_any (n : Int) (s : ByteArray) (hs : s.size ≤ maxLen) (w : World) : Calls Tryd.prog 13 #[.int .i64 n, .string s] w fun e w' => e = .returned (.tuple #[.string (encR n s).1, .int .i64 (encR n s).2]) ∧ Below w.heap.size w w' := by
  have HT := Lib.hid (specTextOk_any s hs w)
  have HE := fun W => specEnOk_any n W
  cases hin : inB n 1 3
  case false =>
    rw [hin] at HE
    rw [encR_no (by rw [hin, Bool.false_and])]
    clear HT hs
    go_enter Tryd.func13, Tryd.ntmps13
    go_wp2_with fail
    refine (HE _).mono ?_
    rintro e w1 ⟨rfl, rfl⟩
    go_wp2_with fail
    go_ret2
    exact ⟨rfl, Below.refl _ _⟩
  rw [hin] at HE
  have hn := inB_iff.1 hin
  cases ht : decide (s.size ≤ 24) && (ptsQ (byt s)).isSome
  case false =>
    rw [ht] at HT
    rw [encR_no (by rw [ht, Bool.and_false])]
    clear hs
    go_enter Tryd.func13, Tryd.ntmps13
    go_wp2_with fail
    refine (HE _).mono ?_
    rintro e w1 ⟨rfl, rfl⟩
    go_wp2_with fail
    refine HT.out.mono ?_
    rintro e w1 ⟨rfl, hb1⟩
    go_wp2_with fail
    go_ret2
    exact ⟨rfl, hb1⟩
  rw [ht] at HT
  obtain ⟨xs, hx, hsz⟩ := text_yes ht
  have HC := Lib.hid (fun W => l11Encode_any n s xs (by omega) hx hsz W)
  have HF := encR_res (n := n) (s := s) (by rw [hin, ht]; rfl)
  obtain ⟨r1, hr1⟩ : ∃ r, r = (encR n s).1 := ⟨_, rfl⟩
  obtain ⟨r2, hr2⟩ : ∃ r, r = (encR n s).2 := ⟨_, rfl⟩
  rw [← hr1, ← hr2] at HF ⊢
  rw [HF] at HC
  clear HF hr1 hr2 hx ht hin hs
  go_enter Tryd.func13, Tryd.ntmps13
  go_wp2_with fail
  refine (HE _).mono ?_
  rintro e w1 ⟨rfl, rfl⟩
  go_wp2_with fail
  refine HT.out.mono ?_
  rintro e w1 ⟨rfl, hb1⟩
  go_wp2_with fail
  refine (HC.out _).mono ?_
  rintro e w2 ⟨rfl, hb2⟩
  go_wp2_with fail
  go_ret2
  exact ⟨rfl, hb1.trans (hb2.mono hb1.size)⟩
theorem implEnc_any (n : Int) (s : ByteArray) (hs : s.size ≤ maxLen) (w : World) (hT : TabW w) : Calls Tryd.prog 14 #[.int .i64 n, .string s] w fun e w' => e = .returned (.tuple #[.string (encR n s).1, .int .i64 (encR n s).2]) ∧ Below w.heap.size w w' := by
  have HT := Lib.hid (implTextOk_any s hs w hT)
  have HE := fun W => implEnOk_any n W
  cases hin : inB n 1 3
  case false =>
    rw [hin] at HE
    rw [encR_no (by rw [hin, Bool.false_and])]
    clear HT hs
    go_enter Tryd.func14, Tryd.ntmps14
    go_wp2_with fail
    refine (HE _).mono ?_
    rintro e w1 ⟨rfl, rfl⟩
    go_wp2_with fail
    go_ret2
    exact ⟨rfl, Below.refl _ _⟩
  rw [hin] at HE
  have hn := inB_iff.1 hin
  cases ht : decide (s.size ≤ 24) && (ptsQ (byt s)).isSome
  case false =>
    rw [ht] at HT
    rw [encR_no (by rw [ht, Bool.and_false])]
    clear hs
    go_enter Tryd.func14, Tryd.ntmps14
    go_wp2_with fail
    refine (HE _).mono ?_
    rintro e w1 ⟨rfl, rfl⟩
    go_wp2_with fail
    refine HT.out.mono ?_
    rintro e w1 ⟨rfl, hb1⟩
    go_wp2_with fail
    go_ret2
    exact ⟨rfl, hb1⟩
  rw [ht] at HT
  obtain ⟨xs, hx, hsz⟩ := text_yes ht
  have HC := Lib.hid (fun W => encode_any n s xs (by omega) hx hsz W)
  have HF := encR_res (n := n) (s := s) (by rw [hin, ht]; rfl)
  obtain ⟨r1, hr1⟩ : ∃ r, r = (encR n s).1 := ⟨_, rfl⟩
  obtain ⟨r2, hr2⟩ : ∃ r, r = (encR n s).2 := ⟨_, rfl⟩
  rw [← hr1, ← hr2] at HF ⊢
  rw [HF] at HC
  clear HF hr1 hr2 hx ht hin hs
  go_enter Tryd.func14, Tryd.ntmps14
  go_wp2_with fail
  refine (HE _).mono ?_
  rintro e w1 ⟨rfl, rfl⟩
  go_wp2_with fail
  refine HT.out.mono ?_
  rintro e w1 ⟨rfl, hb1⟩
  go_wp2_with fail
  refine (HC.out _).mono ?_
  rintro e w2 ⟨rfl, hb2⟩
  go_wp2_with fail
  go_ret2
  exact ⟨rfl, hb1.trans (hb2.mono hb1.size)⟩
set_option maxHeartbeats 1600000 in
theorem specUnits_any (n : Int) (s : ByteArray) (hs : s.size ≤ maxLen) (w : World) : Calls Tryd.prog 15 #[.int .i64 n, .string s] w fun e w' => e = .returned (.tuple #[.int .i64 (unitR n s).1, .int .i64 (unitR n s).2]) ∧ Below w.heap.size w w' := by
  have HC := Lib.hid (specEnc_any n s hs w)
  have HQ := Lib.hid (encR_code n s)
  have HU := Lib.hid (unitR_eq n s)
  obtain ⟨r1, hr1⟩ : ∃ r, r = (encR n s).1 := ⟨_, rfl⟩
  obtain ⟨r2, hr2⟩ : ∃ r, r = (encR n s).2 := ⟨_, rfl⟩
  obtain ⟨q, hq⟩ : ∃ q, q = unitR n s := ⟨_, rfl⟩
  rw [← hr1, ← hr2] at HC HU HQ
  rw [← hq] at HU ⊢
  clear hr1 hr2 hq hs
  by_cases h0 : r2 = 0
  case neg =>
    have HU2 := HU.out
    rw [if_neg h0] at HU2
    have hne : (r2 != 0) = true := by simpa using h0
    subst HU2
    go_enter Tryd.func15, Tryd.ntmps15
    go_wp2_with fail
    refine HC.out.mono ?_
    rintro e w1 ⟨rfl, hb1⟩
    go_wp2_with fail
    go_ret2
    exact ⟨rfl, hb1⟩
  have HU2 := HU.out
  rw [if_pos h0] at HU2
  have hn := (HQ.out h0).1
  have hz := (HQ.out h0).2
  subst h0 HU2
  clear HU
  rcases hn with rfl | rfl | rfl
  all_goals
    go_enter Tryd.func15, Tryd.ntmps15
    go_wp2_with fail
    refine HC.out.mono ?_
    rintro e w1 ⟨rfl, hb1⟩
    go_wp2
    go_ret2
    exact ⟨by simp [usz], hb1⟩
set_option maxHeartbeats 1600000 in
theorem implUnits_any (n : Int) (s : ByteArray) (hs : s.size ≤ maxLen) (w : World) (hT : TabW w) : Calls Tryd.prog 16 #[.int .i64 n, .string s] w fun e w' => e = .returned (.tuple #[.int .i64 (unitR n s).1, .int .i64 (unitR n s).2]) ∧ Below w.heap.size w w' := by
  have HC := Lib.hid (implEnc_any n s hs w hT)
  have HQ := Lib.hid (encR_code n s)
  have HU := Lib.hid (unitR_eq n s)
  obtain ⟨r1, hr1⟩ : ∃ r, r = (encR n s).1 := ⟨_, rfl⟩
  obtain ⟨r2, hr2⟩ : ∃ r, r = (encR n s).2 := ⟨_, rfl⟩
  obtain ⟨q, hq⟩ : ∃ q, q = unitR n s := ⟨_, rfl⟩
  rw [← hr1, ← hr2] at HC HU HQ
  rw [← hq] at HU ⊢
  clear hr1 hr2 hq hs
  by_cases h0 : r2 = 0
  case neg =>
    have HU2 := HU.out
    rw [if_neg h0] at HU2
    have hne : (r2 != 0) = true := by simpa using h0
    subst HU2
    go_enter Tryd.func16, Tryd.ntmps16
    go_wp2_with fail
    refine HC.out.mono ?_
    rintro e w1 ⟨rfl, hb1⟩
    go_wp2_with fail
    go_ret2
    exact ⟨rfl, hb1⟩
  have HU2 := HU.out
  rw [if_pos h0] at HU2
  have hn := (HQ.out h0).1
  have hz := (HQ.out h0).2
  subst h0 HU2
  clear HU
  rcases hn with rfl | rfl | rfl
  all_goals
    go_enter Tryd.func16, Tryd.ntmps16
    go_wp2_with fail
    refine HC.out.mono ?_
    rintro e w1 ⟨rfl, hb1⟩
    go_wp2
    go_ret2
    exact ⟨by simp [usz], hb1⟩
theorem specUnitsOf_ok (n : Int) (s : ByteArray) (h_n : (Lit.int .i64 n).wf = true) (hs : s.size ≤ 1048576) : ∀ B w, B ≤ w.heap.size → TabW w → Calls Tryd.prog 15 #[.int .i64 n, .string s] w fun e w' => e = .returned (.tuple #[.int .i64 (unitR n s).1, .int .i64 (unitR n s).2]) ∧ Below w.heap.size w w' :=
  fun B w _ _ => specUnits_any n s (by unfold maxLen; omega) w
theorem implUnitsOf_ok (n : Int) (s : ByteArray) (h_n : (Lit.int .i64 n).wf = true) (hs : s.size ≤ 1048576) : ∀ B w, B ≤ w.heap.size → TabW w → Calls Tryd.prog 16 #[.int .i64 n, .string s] w fun e w' => e = .returned (.tuple #[.int .i64 (unitR n s).1, .int .i64 (unitR n s).2]) ∧ Below w.heap.size w w' :=
  fun B w _ hT => implUnits_any n s (by unfold maxLen; omega) w hT
theorem specEncode_ok (n : Int) (s : ByteArray) (h_n : (Lit.int .i64 n).wf = true) (hs : s.size ≤ 1048576) : ∀ B w, B ≤ w.heap.size → TabW w → Calls Tryd.prog 13 #[.int .i64 n, .string s] w fun e w' => e = .returned (.tuple #[.string (encR n s).1, .int .i64 (encR n s).2]) ∧ Below w.heap.size w w' :=
  fun B w _ _ => specEnc_any n s (by unfold maxLen; omega) w
theorem implEncode_ok (n : Int) (s : ByteArray) (h_n : (Lit.int .i64 n).wf = true) (hs : s.size ≤ 1048576) : ∀ B w, B ≤ w.heap.size → TabW w → Calls Tryd.prog 14 #[.int .i64 n, .string s] w fun e w' => e = .returned (.tuple #[.string (encR n s).1, .int .i64 (encR n s).2]) ∧ Below w.heap.size w w' :=
  fun B w _ hT => implEnc_any n s (by unfold maxLen; omega) w hT
end Go.Proofs.YtdmmiboefdbcdaaDoor

