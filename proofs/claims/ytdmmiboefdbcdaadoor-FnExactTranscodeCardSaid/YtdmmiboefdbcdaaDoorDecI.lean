/-
  impl.decode (by program: gen_decode.py).
-/
import Derived.Test.YtdmmiboefdbcdaaDoorUnits
namespace Go.Proofs.YtdmmiboefdbcdaaDoor
open Go.RowKit
set_option linter.unusedVariables false
set_option linter.unusedSimpArgs false
set_option linter.unnecessarySimpa false
set_option maxRecDepth 16000

theorem own_at {w : World} {base n c : Nat} {e : TypeId} {A : Option Addr} {xs : List Value} (h : w.ownsRow base e 1 (.slice A n c) n xs) : 0 < n → ∃ g off, A = some ⟨g, off, none⟩ ∧ base ≤ g ∧ g < w.heap.size ∧ ∀ (j : Nat) (u : Value), xs[j]? = some u → w.cell? ⟨g, off + j, none⟩ = some u := fun hn => by
  obtain ⟨A', n', c', e1, hl, _, _, ho⟩ := Own.of_own h
  injection e1 with e1 e2 e3
  subst e1 e2 e3
  obtain ⟨g, off, rfl, h1, h2, ho⟩ := ho hn
  exact ⟨g, off, rfl, h1, h2, fun j u hu => ho.cell hu⟩
theorem decI_1 (s : ByteArray) (hs : s.size ≤ 1048576) (w : World) (hT : TabW w) : Calls Tryd.prog 33 #[.int .i64 1, .string s] w fun e w' => e = txtRes (decT 1 s) ∧ Below w.heap.size w w' := by
  have hb0 : Below w.heap.size w (w.alloc (.cells #[] 2)) := (Below.refl _ _).alloc (Nat.le_refl _) _
  have HT := Lib.hid (implTextOk_any s (by unfold maxLen; omega) (w.alloc (.cells #[] 2)) (hT.below hb0))
  rw [decT_1]
  cases ht : decide (s.size ≤ 24) && (ptsQ (byt s)).isSome
  all_goals
    rw [ht] at HT
    clear ht
    go_enter Tryd.func33, Tryd.ntmps33
    go_wp2_with fail
    refine HT.out.mono ?_
    rintro e w1 ⟨rfl, hb1⟩
    go_wp2_with fail
    go_ret2
    exact ⟨rfl, hb0.trans (hb1.mono hb0.size)⟩
set_option maxHeartbeats 6400000 in
theorem decI_3 (s : ByteArray) (hs : s.size ≤ 1048576) (w : World) : Calls Tryd.prog 33 #[.int .i64 3, .string s] w fun e w' => e = txtRes (decT 3 s) ∧ Below w.heap.size w w' := by
  obtain ⟨i0, hi, hz0, hz1, hz2⟩ := info_parts info_i64
  have ho0 : (w.alloc (.cells #[] 2)).ownsRow w.heap.size 2 1 (.slice (some ⟨w.heap.size, 0, none⟩) 0 0) 0 (i64s []) := World.ownsRow_made w #[] 0 (Nat.le_refl _) (by simp) (by simp [i64s])
  have hb0 : Below w.heap.size w (w.alloc (.cells #[] 2)) := (Below.refl _ _).alloc (Nat.le_refl _) _
  obtain ⟨D, hD⟩ : ∃ D, D = decT 3 s := ⟨_, rfl⟩
  rw [← hD]
  have HD := Lib.hid hD
  clear hD
  have HPT : Hid (ptsOf fI 3 s = byt s) := if_neg (by decide)
  go_enter Tryd.func33, Tryd.ntmps33
  go_wp2_with fail
  go_loopw [6, 64] (fun u i wr => ∃ (k : Nat) (u' : Value), u' = u ∧ i = .int .i64 k ∧ k ≤ s.size ∧ wr.ownsRow w.heap.size 2 1 u' k (i64s ((byt s).take k)) ∧ Below w.heap.size w wr) (fun _ i _ => s.size - (intOf i).toNat)
  case atStart => exact ⟨0, _, rfl, rfl, Nat.zero_le _, ho0, hb0⟩
  case round =>
    clear ho0 hb0
    obtain ⟨k, u, rfl, rfl, hk, hown, hbr⟩ := hrel
    have hsz := hbr.size
    obtain ⟨pA, pN, pC, rfl, _⟩ := (Own.of_own hown).form
    by_cases hlt : k < s.size
    case neg =>
      have hks : k = s.size := by omega
      subst hks
      have hpn : pN = s.size := owns_n hown
      have htk : (byt s).take s.size = byt s := List.take_of_length_le (by simp)
      rw [htk, ← hpn] at hown
      have hpm : pN ≤ 1048576 := by omega
      have HR := Lib.hid (rdI_own hown fun x hx => by have := byt_mem hx; unfold PtB; omega)
      obtain ⟨P, hP⟩ : ∃ P, P = byt s := ⟨_, rfl⟩
      rw [← hP] at HR HPT
      clear hP hown htk hpn
      have HTX := Lib.hid (implTextOf_any pA pN pC wr.heap.size P wr (Nat.le_refl _) (by unfold maxLen; omega) HR.out)
      have HDT := Lib.hid (show D = decC 3 P s by rw [HD.out, decT_I (by decide), HPT.out])
      cases htx : textOk P
      case false =>
        have HF : Hid (txtRes D = TNO) := by show _ = _; rw [HDT.out, decC_no1 htx]; rfl
        rw [htx] at HTX
        clear htx
        go_wp2_with fail
        refine HTX.out.mono ?_
        rintro e w2 ⟨rfl, hb2⟩
        go_wp2_with fail
        go_ret2
        exact ⟨HF.out.symm, hbr.trans (hb2.mono hbr.size)⟩
      obtain ⟨hxx, hsx⟩ := text_ok htx
      have HEN := Lib.hid (fun W => encode_any 3 (textStr P) P (by decide) hxx hsx W)
      rw [htx] at HTX
      have HY1 := Lib.hid (fun h => decC_yes (n := 3) (s := s) htx h)
      have HN3 := Lib.hid (fun t h1 h2 => decC_no3 (n := 3) (P := P) (s := s) (t := t) h1 h2)
      have HN2 := Lib.hid (fun h => decC_no2 (n := 3) (P := P) (s := s) h)
      obtain ⟨ts, hts⟩ : ∃ ts, ts = textStr P := ⟨_, rfl⟩
      rw [← hts] at HTX HEN HY1 HN3 HN2
      obtain ⟨eo, heo⟩ : ∃ eo, eo = encT 3 ts := ⟨_, rfl⟩
      rw [← heo] at HEN HY1 HN3 HN2
      clear htx hxx hsx hts heo
      cases eo with
      | none =>
        have HF : Hid (txtRes D = TNO) := by show _ = _; rw [HDT.out, HN2.out rfl]; rfl
        go_wp2_with fail
        refine HTX.out.mono ?_
        rintro e w2 ⟨rfl, hb2⟩
        go_wp2_with fail
        refine (HEN.out _).mono ?_
        rintro e w3 ⟨he, hb3⟩
        replace he : e = .returned (.tuple #[.string ⟨#[]⟩, .int .i64 19]) := he
        obtain rfl := he
        go_wp2_with fail
        go_ret2
        exact ⟨HF.out.symm, (hbr.trans (hb2.mono hbr.size)).trans (hb3.mono (hbr.trans (hb2.mono hbr.size)).size)⟩
      | some t =>
        by_cases hte : t = s
        case pos =>
          subst hte
          have HF : Hid (txtRes D = .returned (.tuple #[.string ts, .int .i64 0])) := by show _ = _; rw [HDT.out, HY1.out rfl]; rfl
          go_wp2_with fail
          refine HTX.out.mono ?_
          rintro e w2 ⟨rfl, hb2⟩
          go_wp2_with fail
          refine (HEN.out _).mono ?_
          rintro e w3 ⟨he, hb3⟩
          replace he : e = .returned (.tuple #[.string t, .int .i64 0]) := he
          obtain rfl := he
          go_wp2_with fail
          go_ret2
          exact ⟨HF.out.symm, (hbr.trans (hb2.mono hbr.size)).trans (hb3.mono (hbr.trans (hb2.mono hbr.size)).size)⟩
        have HF : Hid (txtRes D = TNO) := by show _ = _; rw [HDT.out, HN3.out t rfl hte]; rfl
        have hs2 : (t.toList == s.toList) = false := str_ne2 hte
        go_wp2_with fail
        refine HTX.out.mono ?_
        rintro e w2 ⟨rfl, hb2⟩
        go_wp2_with fail
        refine (HEN.out _).mono ?_
        rintro e w3 ⟨he, hb3⟩
        replace he : e = .returned (.tuple #[.string t, .int .i64 0]) := he
        obtain rfl := he
        go_wp2_with fail
        go_ret2
        exact ⟨HF.out.symm, (hbr.trans (hb2.mono hbr.size)).trans (hb3.mono (hbr.trans (hb2.mono hbr.size)).size)⟩
    have hb := byt_get hlt
    have hb255 : s[k].toNat < 256 := s[k].toNat_lt
    have HT : Hid (i64s ((byt s).take k) ++ [Value.int .i64 ((s[k].toNat : Nat) : Int)] = i64s ((byt s).take (k + 1))) := by show _ = _; rw [List.take_add_one, hb, Option.toList_some, i64s_append]; rfl
    clear hb
    have hs1 := hown.alloc (.cells #[Value.int .i64 (((s[k].toNat : Nat) : Int))] 2)
    have hc1 := cell_one_new wr (Value.int .i64 (((s[k].toNat : Nat) : Int))) 2
    have hB2 : Below w.heap.size w (wr.alloc (.cells #[Value.int .i64 (((s[k].toNat : Nat) : Int))] 2)) := hbr.alloc hbr.size _
    clear hown
    go_wp2_with (at_builtin; refine wpList_append_own _ rfl _ _ 22 rfl w.heap.size 2 i0 (.int .i64 0) 1 8 Tryd.underlying22 hi hz0 hz1 hz2 rfl (by decide) _ _ _ rfl hs1 ⟨wr.heap.size, 0, none⟩ 1 1 [_] rfl rfl hc1 (one64 _) (by simp only [maxLen]; omega) (by omega) hB2.size ?_; intro v' w3 hown' hgrow _)
    have hB3 := hB2.grown hgrow hB2.size (fun g hg => (hs1.lt g hg).1)
    go_roundw
    case rel => exact ⟨k + 1, _, rfl, by go_num, by omega, by rw [HT.out] at hown'; exact hown', hB3⟩
    case measure => simp [intOf]; omega
end Go.Proofs.YtdmmiboefdbcdaaDoor

