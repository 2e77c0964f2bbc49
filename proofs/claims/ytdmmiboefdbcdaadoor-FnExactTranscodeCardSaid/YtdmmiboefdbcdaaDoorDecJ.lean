/-
  impl.decode, UTF-16 (by program: gen_decode.py).
-/
import Derived.Test.YtdmmiboefdbcdaaDoorDecI
namespace Go.Proofs.YtdmmiboefdbcdaaDoor
open Go.RowKit
set_option linter.unusedVariables false
set_option linter.unusedSimpArgs false
set_option linter.unnecessarySimpa false
set_option maxRecDepth 16000

theorem unitsL_len : ∀ l : List Int, 2 * (unitsL l).length ≤ l.length
  | [] => by simp [unitsL]
  | [a] => by simp [unitsL]
  | a :: b :: r => by
    have := unitsL_len r
    simp only [unitsL, List.length_cons]
    omega
theorem unitsL_b : ∀ l : List Int, (∀ x ∈ l, 0 ≤ x ∧ x ≤ 255) → ∀ x ∈ unitsL l, 0 ≤ x ∧ x ≤ 65535
  | [], _, x, h => by simp [unitsL] at h
  | [a], _, x, h => by simp [unitsL] at h
  | a :: b :: r, hl, x, h => by
    rw [unitsL] at h
    have ha := hl a (by simp)
    have hb := hl b (by simp)
    rcases List.mem_cons.1 h with rfl | h
    · omega
    · exact unitsL_b r (fun y hy => hl y (by simp [hy])) x h
theorem keep_grow {w1 wr w3 : World} {lo b m c : Nat} (hk : ∀ q, lo < q → q < w1.heap.size → wr.heap[q]? = w1.heap[q]?) (hs : w1.heap.size ≤ wr.heap.size) (hb : b = lo ∨ w1.heap.size ≤ b) {ob : Obj} (hg : (wr.alloc ob).grownBy w3 (Value.slice (some ⟨b, 0, none⟩) m c).ownBlock) (o : Obj) : ∀ q, lo < q → q < w1.heap.size → w3.heap[q]? = w1.heap[q]? := fun q h1 h2 => by
  rw [hg.block q (by simp; omega) (by simp [Value.ownBlock]; omega), Below.heap_alloc wr _ _ (by omega)]
  exact hk q h1 h2
set_option maxHeartbeats 12800000 in
theorem decI_2 (s : ByteArray) (hs : s.size ≤ 1048576) (w : World) : Calls Tryd.prog 33 #[.int .i64 2, .string s] w fun e w' => e = txtRes (decT 2 s) ∧ Below w.heap.size w w' := by
  obtain ⟨i0, hi, hz0, hz1, hz2⟩ := info_parts info_i64
  have ho0 : (w.alloc (.cells #[] 2)).ownsRow w.heap.size 2 1 (.slice (some ⟨w.heap.size, 0, none⟩) 0 0) 0 (i64s []) := World.ownsRow_made w #[] 0 (Nat.le_refl _) (by simp) (by simp [i64s])
  have hb0 : Below w.heap.size w (w.alloc (.cells #[] 2)) := (Below.refl _ _).alloc (Nat.le_refl _) _
  obtain ⟨D, hD⟩ : ∃ D, D = decT 2 s := ⟨_, rfl⟩
  rw [← hD]
  have HD := Lib.hid hD
  clear hD
  have HPT : Hid (ptsOf fI 2 s = ptsG fI (unitsL (byt s))) := if_pos rfl
  have HUN := Lib.hid (units_any s hs (w.alloc (.cells #[] 2)))
  go_enter Tryd.func33, Tryd.ntmps33
  go_wp2_with fail
  refine HUN.out.mono ?_
  rintro e w1 ⟨lu, ln, rfl, hol, hb1⟩
  obtain ⟨lA, lN, lC, rfl, _⟩ := (Own.of_own hol).form
  have hln : lN = ln := owns_n hol
  subst hln
  have hnl : lN = (unitsL (byt s)).length := by have := hol.1; simp at this; omega
  have hlm : lN ≤ 524288 := by rw [hnl]; have := unitsL_len (byt s); rw [byt_length] at this; omega
  have HUB := Lib.hid (unitsL_b (byt s) fun x hx => byt_mem hx)
  obtain ⟨U, hU⟩ : ∃ U, U = unitsL (byt s) := ⟨_, rfl⟩
  rw [← hU] at hnl HUB HPT hol
  have hat : 0 < lN → ∃ g off, lA = some ⟨g, off, none⟩ ∧ w.heap.size + 1 ≤ g ∧ g < w1.heap.size ∧ ∀ (j : Nat) (u : Value), (i64s U)[j]? = some u → w1.cell? ⟨g, off + j, none⟩ = some u := fun h => by
    obtain ⟨g, off, a, b, c, d⟩ := own_at hol h
    exact ⟨g, off, a, by simpa using b, c, d⟩
  have HN := Lib.hid hnl
  have ho1 := owns_step ho0 hb1
  have hbw1 := hb0.trans (hb1.mono hb0.size)
  clear hU hol hnl ho0 hb0
  go_wp2_with fail
  go_loopw [6, 9] (fun u i wr => ∃ (k m b c : Nat) (acc : List Int), u = .slice (some ⟨b, 0, none⟩) m c ∧ i = .int .i64 k ∧ m ≤ k ∧ k ≤ lN ∧ (b = w.heap.size ∨ w1.heap.size ≤ b) ∧ Hid (ptsG fI U = acc ++ ptsG fI (U.drop k)) ∧ Hid (AllB acc) ∧ wr.ownsRow w.heap.size 2 1 (.slice (some ⟨b, 0, none⟩) m c) m (i64s acc) ∧ Hid (∀ q, w.heap.size < q → q < w1.heap.size → wr.heap[q]? = w1.heap[q]?) ∧ w1.heap.size ≤ wr.heap.size ∧ Below w.heap.size w wr) (fun _ i _ => lN - (intOf i).toNat)
  case atStart => exact ⟨0, 0, w.heap.size, 0, [], rfl, rfl, Nat.le_refl _, Nat.zero_le _, .inl rfl, Lib.hid rfl, Lib.hid fun x h => by simp at h, ho1, Lib.hid fun q _ _ => rfl, Nat.le_refl _, hbw1⟩
  case round =>
    clear ho1 hbw1
    obtain ⟨k, m, b, c, acc, rfl, rfl, hm, hk, hbk, HQ, HB, hown, HKP, hw1r, hbr⟩ := hrel
    have hsz := hbr.size
    by_cases hlt : k < lN
    case neg =>
      have hkn : k = lN := by omega
      have HP2 : Hid (ptsOf fI 2 s = acc) := by show _ = _; rw [HPT.out, HQ.out, List.drop_of_length_le (by have := HN.out; omega), ptsG, List.append_nil]
      have HR := Lib.hid (rdI_own hown HB.out)
      obtain ⟨pA, hpA⟩ : ∃ pA : Option Addr, pA = some ⟨b, 0, none⟩ := ⟨_, rfl⟩
      obtain ⟨pN, hpN⟩ : ∃ pN, pN = m := ⟨_, rfl⟩
      obtain ⟨pC, hpC⟩ : ∃ pC, pC = c := ⟨_, rfl⟩
      obtain ⟨P, hP⟩ : ∃ P, P = acc := ⟨_, rfl⟩
      rw [← hpA, ← hpN, ← hP] at HR
      rw [← hP] at HP2
      rw [← hpA, ← hpN, ← hpC]
      have hpm : pN ≤ 524288 := by omega
      clear hP hpA hpN hpC hown hat
      have HTX := Lib.hid (implTextOf_any pA pN pC wr.heap.size P wr (Nat.le_refl _) (by unfold maxLen; omega) HR.out)
      have HDT := Lib.hid (show D = decC 2 P s by rw [HD.out, decT_I (by decide), HP2.out])
      cases htx : textOk P
      case false =>
        have HF : Hid (txtRes D = TNO) := by show _ = _; rw [HDT.out, decC_no1 htx]; rfl
        rw [htx] at HTX
        clear htx
        go_wp2_with fail
        refine HTX.out.mono ?_
        rintro e w2 ⟨rfl, hb2⟩
        go_wp2_with fail
        go_ret2
        exact ⟨HF.out.symm, hbr.trans (hb2.mono hbr.size)⟩
      obtain ⟨hxx, hsx⟩ := text_ok htx
      have HEN := Lib.hid (fun W => encode_any 2 (textStr P) P (by decide) hxx hsx W)
      rw [htx] at HTX
      have HY1 := Lib.hid (fun h => decC_yes (n := 2) (s := s) htx h)
      have HN3 := Lib.hid (fun t h1 h2 => decC_no3 (n := 2) (P := P) (s := s) (t := t) h1 h2)
      have HN2 := Lib.hid (fun h => decC_no2 (n := 2) (P := P) (s := s) h)
      obtain ⟨ts, hts⟩ : ∃ ts, ts = textStr P := ⟨_, rfl⟩
      rw [← hts] at HTX HEN HY1 HN3 HN2
      obtain ⟨eo, heo⟩ : ∃ eo, eo = encT 2 ts := ⟨_, rfl⟩
      rw [← heo] at HEN HY1 HN3 HN2
      clear htx hxx hsx hts heo
      cases eo with
      | none =>
        have HF : Hid (txtRes D = TNO) := by show _ = _; rw [HDT.out, HN2.out rfl]; rfl
        go_wp2_with fail
        refine HTX.out.mono ?_
        rintro e w2 ⟨rfl, hb2⟩
        go_wp2_with fail
        refine (HEN.out _).mono ?_
        rintro e w3 ⟨he, hb3⟩
        replace he : e = .returned (.tuple #[.string ⟨#[]⟩, .int .i64 19]) := he
        obtain rfl := he
        go_wp2_with fail
        go_ret2
        exact ⟨HF.out.symm, (hbr.trans (hb2.mono hbr.size)).trans (hb3.mono (hbr.trans (hb2.mono hbr.size)).size)⟩
      | some t =>
        by_cases hte : t = s
        case pos =>
          subst hte
          have HF : Hid (txtRes D = .returned (.tuple #[.string ts, .int .i64 0])) := by show _ = _; rw [HDT.out, HY1.out rfl]; rfl
          go_wp2_with fail
          refine HTX.out.mono ?_
          rintro e w2 ⟨rfl, hb2⟩
          go_wp2_with fail
          refine (HEN.out _).mono ?_
          rintro e w3 ⟨he, hb3⟩
          replace he : e = .returned (.tuple #[.string t, .int .i64 0]) := he
          obtain rfl := he
          go_wp2_with fail
          go_ret2
          exact ⟨HF.out.symm, (hbr.trans (hb2.mono hbr.size)).trans (hb3.mono (hbr.trans (hb2.mono hbr.size)).size)⟩
        have HF : Hid (txtRes D = TNO) := by show _ = _; rw [HDT.out, HN3.out t rfl hte]; rfl
        have hs2 : (t.toList == s.toList) = false := str_ne2 hte
        go_wp2_with fail
        refine HTX.out.mono ?_
        rintro e w2 ⟨rfl, hb2⟩
        go_wp2_with fail
        refine (HEN.out _).mono ?_
        rintro e w3 ⟨he, hb3⟩
        replace he : e = .returned (.tuple #[.string t, .int .i64 0]) := he
        obtain rfl := he
        go_wp2_with fail
        go_ret2
        exact ⟨HF.out.symm, (hbr.trans (hb2.mono hbr.size)).trans (hb3.mono (hbr.trans (hb2.mono hbr.size)).size)⟩
    obtain ⟨g, off, rfl, hg1, hg2, hc1'⟩ := hat (by omega)
    obtain ⟨x, hx, hmem⟩ := at_lt HN.out hlt
    have hcx : _ = some (Value.int .i64 x) := (World.cell?_of_block (a := ⟨g, off + k, none⟩) (HKP.out g (by omega) (by omega))).trans (hc1' k _ (i64s_at hx))
    have hxb := HUB.out x hmem
    have hdk : U.drop k = x :: U.drop (k + 1) := by
      obtain ⟨hk', he⟩ := List.getElem?_eq_some_iff.1 hx
      rw [← he]; exact List.drop_eq_getElem_cons hk'
    have HW := Lib.hid (fun W => within_any x 55296 56319 W)
    have hk1 : IntKind.i64.wrap ((k : Int) + 1) = ((k + 1 : Nat) : Int) := by rw [IntWalk.i64_in _ (by omega)]; rfl
    by_cases hpair : inB x 55296 56319 = true ∧ k + 1 < lN
    case neg =>
      have HQ2 : Hid (ptsG fI U = (acc ++ [x]) ++ ptsG fI (U.drop (k + 1))) := by
        show _ = _
        rw [HQ.out, hdk, List.append_assoc]
        cases hin : inB x 55296 56319
        · rw [ptsG_no hin]; rfl
        · have h3 : U.drop (k + 1) = [] := List.drop_of_length_le (by have := HN.out; have h4 : ¬ k + 1 < lN := fun h => hpair ⟨hin, h⟩; omega)
          rw [h3]; rfl
      have HB2 : Hid (AllB (acc ++ [x])) := AllB.snoc HB.out (by unfold PtB; omega)
      clear hx hdk hmem hc1' hat
      have hs1 := hown.alloc (.cells #[Value.int .i64 (x)] 2)
      have hc1 := cell_one_new wr (Value.int .i64 (x)) 2
      have hB2 : Below w.heap.size w (wr.alloc (.cells #[Value.int .i64 (x)] 2)) := hbr.alloc hbr.size _
      clear hown
      cases hin : inB x 55296 56319
      case true =>
        have h3 : ¬ ((k + 1 : Nat) : Int) < (lN : Int) := fun h => hpair ⟨hin, by omega⟩
        rw [hin] at HW
        clear hpair
        go_wp2_with fail
        refine (HW.out _).mono ?_
        rintro e w' ⟨rfl, rfl⟩
        go_wp2_with (at_builtin; refine wpList_append_lies _ rfl _ _ 22 rfl w.heap.size 2 i0 (.int .i64 0) 1 8 Tryd.underlying22 hi hz0 hz1 hz2 rfl (by decide) (.slice (some ⟨b, 0, none⟩) m c) _ _ rfl hs1 ⟨wr.heap.size, 0, none⟩ 1 1 [_] rfl rfl hc1 (one64 _) (by decide) (by simp only [maxLen]; omega) (by omega) hB2.size (wr.heap.size + 1) (by simp) ?_; intro gg cap w3 hown' hgrow hor hglt)
        have hB3 := hB2.grown hgrow hB2.size (fun g hg => (hs1.lt g hg).1)
        have hkp := keep_grow HKP.out hw1r hbk hgrow (.cells #[Value.int .i64 (x)] 2)
        have hgk : gg = w.heap.size ∨ w1.heap.size ≤ gg := by
          rcases hor with h | h
          · have : b = gg := by simpa [Value.ownBlock] using h
            exact this ▸ hbk
          · exact .inr (h ▸ Nat.le_succ_of_le hw1r)
        have hw13 : w1.heap.size ≤ w3.heap.size := by have := hgrow.size; simp at this; omega
        go_roundw
        case rel => exact ⟨k + 1, m + 1, gg, cap, acc ++ [x], rfl, by go_num, by omega, by omega, hgk, HQ2, HB2, by rw [i64s_append]; exact hown', Lib.hid hkp, hw13, hB3⟩
        case measure => simp [intOf]; omega
      rw [hin] at HW
      clear hpair
      go_wp2_with fail
      refine (HW.out _).mono ?_
      rintro e w' ⟨rfl, rfl⟩
      go_wp2_with (at_builtin; refine wpList_append_lies _ rfl _ _ 22 rfl w.heap.size 2 i0 (.int .i64 0) 1 8 Tryd.underlying22 hi hz0 hz1 hz2 rfl (by decide) (.slice (some ⟨b, 0, none⟩) m c) _ _ rfl hs1 ⟨wr.heap.size, 0, none⟩ 1 1 [_] rfl rfl hc1 (one64 _) (by decide) (by simp only [maxLen]; omega) (by omega) hB2.size (wr.heap.size + 1) (by simp) ?_; intro gg cap w3 hown' hgrow hor hglt)
      have hB3 := hB2.grown hgrow hB2.size (fun g hg => (hs1.lt g hg).1)
      have hkp := keep_grow HKP.out hw1r hbk hgrow (.cells #[Value.int .i64 (x)] 2)
      have hgk : gg = w.heap.size ∨ w1.heap.size ≤ gg := by
        rcases hor with h | h
        · have : b = gg := by simpa [Value.ownBlock] using h
          exact this ▸ hbk
        · exact .inr (h ▸ Nat.le_succ_of_le hw1r)
      have hw13 : w1.heap.size ≤ w3.heap.size := by have := hgrow.size; simp at this; omega
      go_roundw
      case rel => exact ⟨k + 1, m + 1, gg, cap, acc ++ [x], rfl, by go_num, by omega, by omega, hgk, HQ2, HB2, by rw [i64s_append]; exact hown', Lib.hid hkp, hw13, hB3⟩
      case measure => simp [intOf]; omega
    obtain ⟨hin, h3⟩ := hpair
    have hxr := inB_iff.1 hin
    rw [hin] at HW
    obtain ⟨y, hy, hmemy⟩ := at_lt HN.out h3
    have hcy : _ = some (Value.int .i64 y) := (World.cell?_of_block (a := ⟨g, off + (k + 1), none⟩) (HKP.out g (by omega) (by omega))).trans (hc1' (k + 1) _ (i64s_at hy))
    have hyb := HUB.out y hmemy
    have hdk2 : U.drop (k + 1) = y :: U.drop (k + 2) := by
      obtain ⟨hk', he⟩ := List.getElem?_eq_some_iff.1 hy
      rw [← he]; exact List.drop_eq_getElem_cons hk'
    have HQ2 : Hid (ptsG fI U = (acc ++ [fI x y]) ++ ptsG fI (U.drop (k + 2))) := by
      show _ = _
      rw [HQ.out, hdk, hdk2, ptsG_pair hin, List.append_assoc]; rfl
    have hfs : fI x y = 65536 + (x - 55296) * 1024 + y - 56320 := rfl
    obtain ⟨z, hz⟩ : ∃ z, z = fI x y := ⟨_, rfl⟩
    rw [← hz] at HQ2 hfs
    have HB2 : Hid (AllB (acc ++ [z])) := AllB.snoc HB.out (by unfold PtB; omega)
    have h3' : ((k + 1 : Nat) : Int) < (lN : Int) := by omega
    have hzv : (65536 : Int) + (x - 55296) * 1024 + y - 56320 = z := hfs.symm
    have hk2 : IntKind.i64.wrap (((k + 1 : Nat) : Int) + 1) = ((k + 2 : Nat) : Int) := by rw [IntWalk.i64_in _ (by omega)]; rfl
    have hb1' : (0 : Int) ≤ ((k + 1 : Nat) : Int) := by omega
    clear hx hdk hmem hc1' hat hy hdk2 hmemy hz hfs
    have hs1 := hown.alloc (.cells #[Value.int .i64 (z)] 2)
    have hc1 := cell_one_new wr (Value.int .i64 (z)) 2
    have hB2 : Below w.heap.size w (wr.alloc (.cells #[Value.int .i64 (z)] 2)) := hbr.alloc hbr.size _
    clear hown
    go_wp2_with fail
    refine (HW.out _).mono ?_
    rintro e w' ⟨rfl, rfl⟩
    go_wp2_with (at_builtin; refine wpList_append_lies _ rfl _ _ 22 rfl w.heap.size 2 i0 (.int .i64 0) 1 8 Tryd.underlying22 hi hz0 hz1 hz2 rfl (by decide) (.slice (some ⟨b, 0, none⟩) m c) _ _ rfl hs1 ⟨wr.heap.size, 0, none⟩ 1 1 [_] rfl rfl hc1 (one64 _) (by decide) (by simp only [maxLen]; omega) (by omega) hB2.size (wr.heap.size + 1) (by simp) ?_; intro gg cap w3 hown' hgrow hor hglt)
    have hB3 := hB2.grown hgrow hB2.size (fun g hg => (hs1.lt g hg).1)
    have hkp := keep_grow HKP.out hw1r hbk hgrow (.cells #[Value.int .i64 (z)] 2)
    have hgk : gg = w.heap.size ∨ w1.heap.size ≤ gg := by
      rcases hor with h | h
      · have : b = gg := by simpa [Value.ownBlock] using h
        exact this ▸ hbk
      · exact .inr (h ▸ Nat.le_succ_of_le hw1r)
    have hw13 : w1.heap.size ≤ w3.heap.size := by have := hgrow.size; simp at this; omega
    go_roundw
    case rel => exact ⟨k + 2, m + 1, gg, cap, acc ++ [z], rfl, by go_num, by omega, by omega, hgk, HQ2, HB2, by rw [i64s_append]; exact hown', Lib.hid hkp, hw13, hB3⟩
    case measure => simp [intOf]; omega
end Go.Proofs.YtdmmiboefdbcdaaDoor

