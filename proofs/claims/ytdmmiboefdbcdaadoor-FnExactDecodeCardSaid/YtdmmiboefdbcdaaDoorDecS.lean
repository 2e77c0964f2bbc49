/-
  spec.l11Decode (by program: gen_decode.py).
-/
import Derived.Test.YtdmmiboefdbcdaaDoorDecJ
import Derived.Test.YtdmmiboefdbcdaaDoorNarrow
import Derived.Test.YtdmmiboefdbcdaaDoorWide
namespace Go.Proofs.YtdmmiboefdbcdaaDoor
open Go.RowKit
set_option linter.unusedVariables false
set_option linter.unusedSimpArgs false
set_option linter.unnecessarySimpa false
set_option maxRecDepth 16000

theorem allB_G : ∀ l : List Int, (∀ x ∈ l, 0 ≤ x ∧ x ≤ 65535) → AllB (ptsG fS l)
  | [], _ => fun x h => by simp [ptsG] at h
  | [n], hl => fun x h => by
    rw [ptsG, List.mem_singleton] at h
    have := hl n (by simp)
    subst h
    unfold PtB; omega
  | n :: m :: r, hl => fun x h => by
    have hn := hl n (by simp)
    have hm := hl m (by simp)
    rw [ptsG] at h
    split at h
    · rcases List.mem_cons.1 h with rfl | h
      · unfold PtB fS; omega
      · exact allB_G r (fun y hy => hl y (by simp [hy])) x h
    · rcases List.mem_cons.1 h with rfl | h
      · unfold PtB; omega
      · exact allB_G (m :: r) (fun y hy => hl y (List.mem_cons_of_mem _ hy)) x h
theorem allB_S (s : ByteArray) : AllB ((ptsG fS (unitsL (byt s))).take 25) := fun x h =>
  allB_G _ (unitsL_b (byt s) fun x hx => byt_mem hx) x (List.mem_of_mem_take h)
theorem decS_1 (s : ByteArray) (hs : s.size ≤ 1048576) (w : World) : Calls Tryd.prog 32 #[.int .i64 1, .string s] w fun e w' => e = txtRes (decT 1 s) ∧ Below w.heap.size w w' := by
  have HT := Lib.hid (specTextOk_any s (by unfold maxLen; omega) w)
  rw [decT_1]
  cases ht : decide (s.size ≤ 24) && (ptsQ (byt s)).isSome
  case false =>
    rw [ht] at HT
    clear ht
    go_enter Tryd.func32, Tryd.ntmps32
    go_wp2_with fail
    refine HT.out.mono ?_
    rintro e w1 ⟨rfl, hb1⟩
    go_wp2_with fail
    go_ret2
    exact ⟨rfl, hb1⟩
  obtain ⟨xs, hx, hsz⟩ := text_yes ht
  have HE := Lib.hid (fun W => l11Encode_any 1 s xs (.inl rfl) hx hsz W)
  rw [ht] at HT
  clear ht hx
  go_enter Tryd.func32, Tryd.ntmps32
  go_wp2_with fail
  refine HT.out.mono ?_
  rintro e w1 ⟨rfl, hb1⟩
  go_wp2_with fail
  refine (HE.out _).mono ?_
  rintro e w2 ⟨he, hb2⟩
  replace he : e = .returned (.tuple #[.string s, .int .i64 0]) := he
  obtain rfl := he
  go_wp2_with fail
  go_ret2
  exact ⟨rfl, hb1.trans (hb2.mono hb1.size)⟩
set_option maxHeartbeats 6400000 in
theorem decS_3 (s : ByteArray) (hs : s.size ≤ 1048576) (w : World) : Calls Tryd.prog 32 #[.int .i64 3, .string s] w fun e w' => e = txtRes (decT 3 s) ∧ Below w.heap.size w w' := by
  have HT := Lib.hid (specTextOk_any s (by unfold maxLen; omega) w)
  have HRW := Lib.hid (fun W => narrow_any s hs W)
  obtain ⟨D, hD⟩ : ∃ D, D = decT 3 s := ⟨_, rfl⟩
  rw [← hD]
  have HD : Hid (D = decC 3 ((byt s).take 25) s) := by show _ = _; rw [hD, decT_S (by decide), ptsOf, if_neg (by decide)]
  clear hD
  obtain ⟨b, hb⟩ : ∃ b, b = (decide (s.size ≤ 24) && (ptsQ (byt s)).isSome) := ⟨_, rfl⟩
  rw [← hb] at HT
  have hlen : ((byt s).take 25).length ≤ 25 := by rw [List.length_take]; exact Nat.min_le_left _ _
  have HB0 : Hid (AllB ((byt s).take 25)) := fun x hx => by have := byt_mem (List.mem_of_mem_take hx); unfold PtB; omega
  obtain ⟨P, hP⟩ : ∃ P, P = (byt s).take 25 := ⟨_, rfl⟩
  rw [← hP] at HD hlen HRW HB0
  clear hb hP
  go_enter Tryd.func32, Tryd.ntmps32
  go_wp2_with fail
  refine HT.out.mono ?_
  rintro e w1 ⟨rfl, hb1⟩
  go_wp2_with fail
  refine (HRW.out _).mono ?_
  rintro e w2 ⟨u, n, rfl, ho, hb2⟩
  obtain ⟨pA, pN, pC, rfl, _⟩ := (Own.of_own ho).form
  have hpn : pN = n := owns_n ho
  subst hpn
  have hpl : pN = P.length := by have := ho.1; simp at this; omega
  have hpm : pN ≤ 1048576 := by omega
  have HR := Lib.hid (rdI_own ho HB0.out)
  have hB2 := hb1.trans (hb2.mono hb1.size)
  clear ho hpl hlen
  have HTX := Lib.hid (specTextOf_any pA pN pC w2.heap.size P w2 (Nat.le_refl _) (by unfold maxLen; omega) HR.out)
  have HDT := Lib.hid (HD.out)
  cases htx : textOk P
  case false =>
    have HF : Hid (txtRes D = TNO) := by show _ = _; rw [HDT.out, decC_no1 htx]; rfl
    rw [htx] at HTX
    clear htx
    go_wp2_with fail
    refine HTX.out.mono ?_
    rintro e w2 ⟨rfl, hb2⟩
    go_wp2_with fail
    go_ret2
    exact ⟨HF.out.symm, hB2.trans (hb2.mono hB2.size)⟩
  obtain ⟨hxx, hsx⟩ := text_ok htx
  have HEN := Lib.hid (fun W => l11Encode_any 3 (textStr P) P (by decide) hxx hsx W)
  rw [htx] at HTX
  have HY1 := Lib.hid (fun h => decC_yes (n := 3) (s := s) htx h)
  have HN3 := Lib.hid (fun t h1 h2 => decC_no3 (n := 3) (P := P) (s := s) (t := t) h1 h2)
  have HN2 := Lib.hid (fun h => decC_no2 (n := 3) (P := P) (s := s) h)
  obtain ⟨ts, hts⟩ : ∃ ts, ts = textStr P := ⟨_, rfl⟩
  rw [← hts] at HTX HEN HY1 HN3 HN2
  obtain ⟨eo, heo⟩ : ∃ eo, eo = encT 3 ts := ⟨_, rfl⟩
  rw [← heo] at HEN HY1 HN3 HN2
  clear htx hxx hsx hts heo
  cases eo with
  | none =>
    have HF : Hid (txtRes D = TNO) := by show _ = _; rw [HDT.out, HN2.out rfl]; rfl
    go_wp2_with fail
    refine HTX.out.mono ?_
    rintro e w2 ⟨rfl, hb2⟩
    go_wp2_with fail
    refine (HEN.out _).mono ?_
    rintro e w3 ⟨he, hb3⟩
    replace he : e = .returned (.tuple #[.string ⟨#[]⟩, .int .i64 19]) := he
    obtain rfl := he
    go_wp2_with fail
    go_ret2
    exact ⟨HF.out.symm, (hB2.trans (hb2.mono hB2.size)).trans (hb3.mono (hB2.trans (hb2.mono hB2.size)).size)⟩
  | some t =>
    by_cases hte : t = s
    case pos =>
      subst hte
      have HF : Hid (txtRes D = .returned (.tuple #[.string ts, .int .i64 0])) := by show _ = _; rw [HDT.out, HY1.out rfl]; rfl
      go_wp2_with fail
      refine HTX.out.mono ?_
      rintro e w2 ⟨rfl, hb2⟩
      go_wp2_with fail
      refine (HEN.out _).mono ?_
      rintro e w3 ⟨he, hb3⟩
      replace he : e = .returned (.tuple #[.string t, .int .i64 0]) := he
      obtain rfl := he
      go_wp2_with fail
      go_ret2
      exact ⟨HF.out.symm, (hB2.trans (hb2.mono hB2.size)).trans (hb3.mono (hB2.trans (hb2.mono hB2.size)).size)⟩
    have HF : Hid (txtRes D = TNO) := by show _ = _; rw [HDT.out, HN3.out t rfl hte]; rfl
    have hs2 : (t.toList == s.toList) = false := str_ne2 hte
    go_wp2_with fail
    refine HTX.out.mono ?_
    rintro e w2 ⟨rfl, hb2⟩
    go_wp2_with fail
    refine (HEN.out _).mono ?_
    rintro e w3 ⟨he, hb3⟩
    replace he : e = .returned (.tuple #[.string t, .int .i64 0]) := he
    obtain rfl := he
    go_wp2_with fail
    go_ret2
    exact ⟨HF.out.symm, (hB2.trans (hb2.mono hB2.size)).trans (hb3.mono (hB2.trans (hb2.mono hB2.size)).size)⟩
set_option maxHeartbeats 6400000 in
theorem decS_2 (s : ByteArray) (hs : s.size ≤ 1048576) (w : World) : Calls Tryd.prog 32 #[.int .i64 2, .string s] w fun e w' => e = txtRes (decT 2 s) ∧ Below w.heap.size w w' := by
  have HT := Lib.hid (specTextOk_any s (by unfold maxLen; omega) w)
  have HRW := Lib.hid (fun W => wide_any s hs W)
  obtain ⟨D, hD⟩ : ∃ D, D = decT 2 s := ⟨_, rfl⟩
  rw [← hD]
  have HD : Hid (D = decC 2 ((ptsG fS (unitsL (byt s))).take 25) s) := by show _ = _; rw [hD, decT_S (by decide), ptsOf, if_pos rfl]
  clear hD
  obtain ⟨b, hb⟩ : ∃ b, b = (decide (s.size ≤ 24) && (ptsQ (byt s)).isSome) := ⟨_, rfl⟩
  rw [← hb] at HT
  have hlen : ((ptsG fS (unitsL (byt s))).take 25).length ≤ 25 := by rw [List.length_take]; exact Nat.min_le_left _ _
  have HB0 : Hid (AllB ((ptsG fS (unitsL (byt s))).take 25)) := allB_S s
  obtain ⟨P, hP⟩ : ∃ P, P = (ptsG fS (unitsL (byt s))).take 25 := ⟨_, rfl⟩
  rw [← hP] at HD hlen HRW HB0
  clear hb hP
  go_enter Tryd.func32, Tryd.ntmps32
  go_wp2_with fail
  refine HT.out.mono ?_
  rintro e w1 ⟨rfl, hb1⟩
  go_wp2_with fail
  refine (HRW.out _).mono ?_
  rintro e w2 ⟨⟨u, n, rfl, ho, hb2⟩, _⟩
  obtain ⟨pA, pN, pC, rfl, _⟩ := (Own.of_own ho).form
  have hpn : pN = n := owns_n ho
  subst hpn
  have hpl : pN = P.length := by have := ho.1; simp at this; omega
  have hpm : pN ≤ 1048576 := by omega
  have HR := Lib.hid (rdI_own ho HB0.out)
  have hB2 := hb1.trans (hb2.mono hb1.size)
  clear ho hpl hlen
  have HTX := Lib.hid (specTextOf_any pA pN pC w2.heap.size P w2 (Nat.le_refl _) (by unfold maxLen; omega) HR.out)
  have HDT := Lib.hid (HD.out)
  cases htx : textOk P
  case false =>
    have HF : Hid (txtRes D = TNO) := by show _ = _; rw [HDT.out, decC_no1 htx]; rfl
    rw [htx] at HTX
    clear htx
    go_wp2_with fail
    refine HTX.out.mono ?_
    rintro e w2 ⟨rfl, hb2⟩
    go_wp2_with fail
    go_ret2
    exact ⟨HF.out.symm, hB2.trans (hb2.mono hB2.size)⟩
  obtain ⟨hxx, hsx⟩ := text_ok htx
  have HEN := Lib.hid (fun W => l11Encode_any 2 (textStr P) P (by decide) hxx hsx W)
  rw [htx] at HTX
  have HY1 := Lib.hid (fun h => decC_yes (n := 2) (s := s) htx h)
  have HN3 := Lib.hid (fun t h1 h2 => decC_no3 (n := 2) (P := P) (s := s) (t := t) h1 h2)
  have HN2 := Lib.hid (fun h => decC_no2 (n := 2) (P := P) (s := s) h)
  obtain ⟨ts, hts⟩ : ∃ ts, ts = textStr P := ⟨_, rfl⟩
  rw [← hts] at HTX HEN HY1 HN3 HN2
  obtain ⟨eo, heo⟩ : ∃ eo, eo = encT 2 ts := ⟨_, rfl⟩
  rw [← heo] at HEN HY1 HN3 HN2
  clear htx hxx hsx hts heo
  cases eo with
  | none =>
    have HF : Hid (txtRes D = TNO) := by show _ = _; rw [HDT.out, HN2.out rfl]; rfl
    go_wp2_with fail
    refine HTX.out.mono ?_
    rintro e w2 ⟨rfl, hb2⟩
    go_wp2_with fail
    refine (HEN.out _).mono ?_
    rintro e w3 ⟨he, hb3⟩
    replace he : e = .returned (.tuple #[.string ⟨#[]⟩, .int .i64 19]) := he
    obtain rfl := he
    go_wp2_with fail
    go_ret2
    exact ⟨HF.out.symm, (hB2.trans (hb2.mono hB2.size)).trans (hb3.mono (hB2.trans (hb2.mono hB2.size)).size)⟩
  | some t =>
    by_cases hte : t = s
    case pos =>
      subst hte
      have HF : Hid (txtRes D = .returned (.tuple #[.string ts, .int .i64 0])) := by show _ = _; rw [HDT.out, HY1.out rfl]; rfl
      go_wp2_with fail
      refine HTX.out.mono ?_
      rintro e w2 ⟨rfl, hb2⟩
      go_wp2_with fail
      refine (HEN.out _).mono ?_
      rintro e w3 ⟨he, hb3⟩
      replace he : e = .returned (.tuple #[.string t, .int .i64 0]) := he
      obtain rfl := he
      go_wp2_with fail
      go_ret2
      exact ⟨HF.out.symm, (hB2.trans (hb2.mono hB2.size)).trans (hb3.mono (hB2.trans (hb2.mono hB2.size)).size)⟩
    have HF : Hid (txtRes D = TNO) := by show _ = _; rw [HDT.out, HN3.out t rfl hte]; rfl
    have hs2 : (t.toList == s.toList) = false := str_ne2 hte
    go_wp2_with fail
    refine HTX.out.mono ?_
    rintro e w2 ⟨rfl, hb2⟩
    go_wp2_with fail
    refine (HEN.out _).mono ?_
    rintro e w3 ⟨he, hb3⟩
    replace he : e = .returned (.tuple #[.string t, .int .i64 0]) := he
    obtain rfl := he
    go_wp2_with fail
    go_ret2
    exact ⟨HF.out.symm, (hB2.trans (hb2.mono hB2.size)).trans (hb3.mono (hB2.trans (hb2.mono hB2.size)).size)⟩
end Go.Proofs.YtdmmiboefdbcdaaDoor

