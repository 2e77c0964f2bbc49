/-
  spec.l11Wide (by program: gen_dec.py).
-/
import Derived.Test.YtdmmiboefdbcdaaDoorDecP
namespace Go.Proofs.YtdmmiboefdbcdaaDoor
open Go.RowKit
set_option linter.unusedVariables false
set_option linter.unusedSimpArgs false
set_option linter.unnecessarySimpa false
set_option maxRecDepth 16000

set_option maxHeartbeats 6400000 in
theorem wide_any (s : ByteArray) (hs : s.size ≤ 1048576) (w : World) : Calls Tryd.prog 42 #[.string s] w fun e w' => RowR w w' ((ptsG fS (unitsL (byt s))).take 25) e ∧ AllB ((ptsG fS (unitsL (byt s))).take 25) := by
  obtain ⟨i0, hi, hz0, hz1, hz2⟩ := info_parts info_i64
  have ho0 : (w.alloc (.cells #[] 2)).ownsRow w.heap.size 2 1 (.slice (some ⟨w.heap.size, 0, none⟩) 0 0) 0 (i64s []) := World.ownsRow_made w #[] 0 (Nat.le_refl _) (by simp) (by simp [i64s])
  have hb0 : Below w.heap.size w (w.alloc (.cells #[] 2)) := (Below.refl _ _).alloc (Nat.le_refl _) _
  go_enter Tryd.func42, Tryd.ntmps42
  go_wp2_with fail
  go_loopw [3, 4] (fun u i wr => ∃ (k m : Nat) (u' : Value) (acc : List Int), u' = u ∧ i = .int .i64 k ∧ m ≤ 25 ∧ Hid (acc.length = m) ∧ k ≤ s.size + 1 ∧ Hid (ptsG fS (unitsL (byt s)) = acc ++ ptsG fS (unitsL ((byt s).drop k))) ∧ Hid (AllB acc) ∧ wr.ownsRow w.heap.size 2 1 u' m (i64s acc) ∧ Below w.heap.size w wr) (fun _ i _ => s.size + 1 - (intOf i).toNat)
  case atStart => exact ⟨0, 0, _, [], rfl, rfl, Nat.zero_le _, Lib.hid rfl, Nat.zero_le _, Lib.hid rfl, Lib.hid fun x h => by simp at h, ho0, hb0⟩
  case round =>
    clear ho0 hb0
    obtain ⟨k, m, u, acc, rfl, rfl, hm, HL, hk, HQ, HB, hown, hbr⟩ := hrel
    have hsz := hbr.size
    obtain ⟨uA, uN, uC, rfl, _⟩ := (Own.of_own hown).form
    have hun : uN = m := owns_n hown
    subst hun
    have hk1 : IntKind.i64.wrap ((k : Int) + 1) = (k : Int) + 1 := IntWalk.i64_in _ (by omega)
    by_cases hlt : k + 1 < s.size
    case neg =>
      have HF : Hid (acc = (ptsG fS (unitsL (byt s))).take 25) := by show _ = _; rw [HQ.out, unit_end hlt, ptsG, List.append_nil, List.take_of_length_le (by rw [HL.out]; exact hm)]
      have hlt' : ¬ (k : Int) + 1 < (s.size : Int) := by omega
      go_wp2_with fail
      go_ret
      exact ⟨⟨_, _, rfl, by rw [← HF.out]; exact hown, hbr⟩, by rw [← HF.out]; exact HB.out⟩
    have hlt' : (k : Int) + 1 < (s.size : Int) := by omega
    by_cases h24 : uN ≤ 24
    case neg =>
      have HF : Hid (acc = (ptsG fS (unitsL (byt s))).take 25) := by show _ = _; rw [HQ.out, List.take_append_of_le_length (by rw [HL.out]; omega), List.take_of_length_le (by rw [HL.out]; omega)]
      have h24' : ¬ (uN : Int) ≤ 24 := by omega
      go_wp2_with fail
      go_ret
      exact ⟨⟨_, _, rfl, by rw [← HF.out]; exact hown, hbr⟩, by rw [← HF.out]; exact HB.out⟩
    have h24' : (uN : Int) ≤ 24 := by omega
    obtain ⟨hu, h0, h1⟩ := unit_at hlt
    have HG := Lib.hid (fun W => specGetFix_any (s.extract k (k + 2)) (by simp; omega) W)
    rw [show v256 (byt (s.extract k (k + 2))) = uAt s k from rfl, wrap64_id (by omega) (by omega)] at HG
    obtain ⟨x, hx⟩ : ∃ x, x = uAt s k := ⟨_, rfl⟩
    rw [← hx] at HG hu h0 h1
    have hk2 : IntKind.i64.wrap ((k : Int) + 2) = ((k + 2 : Nat) : Int) := by rw [IntWalk.i64_in _ (by omega)]; rfl
    have hk3 : IntKind.i64.wrap ((k : Int) + 3) = (k : Int) + 3 := IntWalk.i64_in _ (by omega)
    have hb1 : (0 : Int) ≤ (k : Int) := by omega
    have hb2 : (k : Int) ≤ ((k + 2 : Nat) : Int) := by omega
    have hb3 : ((k + 2 : Nat) : Int) ≤ (s.size : Int) := by omega
    have HLI := Lib.hid (fun W => l00In_any x 55296 56319 W)
    by_cases hpair : inB x 55296 56319 = true ∧ k + 3 < s.size
    case neg =>
      have HQ2 : Hid (ptsG fS (unitsL (byt s)) = (acc ++ [x]) ++ ptsG fS (unitsL ((byt s).drop (k + 2)))) := by
        show _ = _
        rw [HQ.out, hu, List.append_assoc]
        cases hin : inB x 55296 56319
        · rw [ptsG_no hin]; rfl
        · have : unitsL ((byt s).drop (k + 2)) = [] := unit_end fun h => hpair ⟨hin, by omega⟩
          rw [this]; rfl
      have HB2 : Hid (AllB (acc ++ [x])) := AllB.snoc HB.out (by unfold PtB; omega)
      clear hu hx
      have hs1 := hown.alloc (.cells #[Value.int .i64 (x)] 2)
      have hc1 := cell_one_new wr (Value.int .i64 (x)) 2
      have hB2 : Below w.heap.size w (wr.alloc (.cells #[Value.int .i64 (x)] 2)) := hbr.alloc hbr.size _
      clear hown
      cases hin : inB x 55296 56319
      case true =>
        have h3 : ¬ (k : Int) + 3 < (s.size : Int) := fun h => hpair ⟨hin, by omega⟩
        rw [hin] at HLI
        clear hpair
        go_wp2_with fail
        refine (HG.out _).mono ?_
        rintro e w' ⟨rfl, rfl⟩
        go_wp2_with fail
        refine (HLI.out _).mono ?_
        rintro e w' ⟨rfl, rfl⟩
        go_wp2_with (at_builtin; refine wpList_append_own _ rfl _ _ 22 rfl w.heap.size 2 i0 (.int .i64 0) 1 8 Tryd.underlying22 hi hz0 hz1 hz2 rfl (by decide) _ _ _ rfl hs1 ⟨wr.heap.size, 0, none⟩ 1 1 [_] rfl rfl hc1 (one64 _) (by simp only [maxLen]; omega) (by omega) hB2.size ?_; intro v' w3 hown' hgrow _)
        have hB3 := hB2.grown hgrow hB2.size (fun g hg => (hs1.lt g hg).1)
        go_roundw
        case rel => exact ⟨k + 2, uN + 1, _, acc ++ [x], rfl, by go_num, by omega, Lib.hid (by have := HL.out; simp; omega), by omega, HQ2, HB2, by rw [i64s_append]; exact hown', hB3⟩
        case measure => simp [intOf]; omega
      rw [hin] at HLI
      clear hpair
      go_wp2_with fail
      refine (HG.out _).mono ?_
      rintro e w' ⟨rfl, rfl⟩
      go_wp2_with fail
      refine (HLI.out _).mono ?_
      rintro e w' ⟨rfl, rfl⟩
      go_wp2_with (at_builtin; refine wpList_append_own _ rfl _ _ 22 rfl w.heap.size 2 i0 (.int .i64 0) 1 8 Tryd.underlying22 hi hz0 hz1 hz2 rfl (by decide) _ _ _ rfl hs1 ⟨wr.heap.size, 0, none⟩ 1 1 [_] rfl rfl hc1 (one64 _) (by simp only [maxLen]; omega) (by omega) hB2.size ?_; intro v' w3 hown' hgrow _)
      have hB3 := hB2.grown hgrow hB2.size (fun g hg => (hs1.lt g hg).1)
      go_roundw
      case rel => exact ⟨k + 2, uN + 1, _, acc ++ [x], rfl, by go_num, by omega, Lib.hid (by have := HL.out; simp; omega), by omega, HQ2, HB2, by rw [i64s_append]; exact hown', hB3⟩
      case measure => simp [intOf]; omega
    obtain ⟨hin, h3⟩ := hpair
    have hxr := inB_iff.1 hin
    rw [hin] at HLI
    obtain ⟨hu2, h20, h21⟩ := unit_at (s := s) (i := k + 2) (by omega)
    have HG2 := Lib.hid (fun W => specGetFix_any (s.extract (k + 2) (k + 2 + 2)) (by simp; omega) W)
    rw [show v256 (byt (s.extract (k + 2) (k + 2 + 2))) = uAt s (k + 2) from rfl, wrap64_id (by omega) (by omega)] at HG2
    obtain ⟨y, hy⟩ : ∃ y, y = uAt s (k + 2) := ⟨_, rfl⟩
    rw [← hy] at HG2 hu2 h20 h21
    have HQ2 : Hid (ptsG fS (unitsL (byt s)) = (acc ++ [fS x y]) ++ ptsG fS (unitsL ((byt s).drop (k + 4)))) := by
      show _ = _
      rw [HQ.out, hu, hu2, ptsG_pair hin, List.append_assoc]; rfl
    have hfs : fS x y = 65536 + (x - 55296) * 1024 + (y - 56320) % 1024 := rfl
    obtain ⟨z, hz⟩ : ∃ z, z = fS x y := ⟨_, rfl⟩
    rw [← hz] at HQ2 hfs
    have HB2 : Hid (AllB (acc ++ [z])) := AllB.snoc HB.out (by unfold PtB; omega)
    have hk4 : IntKind.i64.wrap ((k : Int) + 4) = ((k + 2 + 2 : Nat) : Int) := by rw [IntWalk.i64_in _ (by omega)]; simp; omega
    have hb4 : ((k + 2 : Nat) : Int) ≤ ((k + 2 + 2 : Nat) : Int) := by omega
    have hb5 : ((k + 2 + 2 : Nat) : Int) ≤ (s.size : Int) := by omega
    have h3' : (k : Int) + 3 < (s.size : Int) := by omega
    have ha := i64_and1023 (y - 56320)
    have hzv : (65536 : Int) + (x - 55296) * 1024 + (y - 56320) % 1024 = z := hfs.symm
    have HZ := Lib.hid hzv
    clear hu hx hu2 hy hz hfs
    have hs1 := hown.alloc (.cells #[Value.int .i64 (z)] 2)
    have hc1 := cell_one_new wr (Value.int .i64 (z)) 2
    have hB2 : Below w.heap.size w (wr.alloc (.cells #[Value.int .i64 (z)] 2)) := hbr.alloc hbr.size _
    clear hown
    go_wp2_with fail
    refine (HG.out _).mono ?_
    rintro e w' ⟨rfl, rfl⟩
    go_wp2_with fail
    refine (HLI.out _).mono ?_
    rintro e w' ⟨rfl, rfl⟩
    go_wp2_with fail
    refine (HG2.out _).mono ?_
    rintro e w' ⟨rfl, rfl⟩
    go_wp2_with (at_builtin; refine wpList_append_own _ rfl _ _ 22 rfl w.heap.size 2 i0 (.int .i64 0) 1 8 Tryd.underlying22 hi hz0 hz1 hz2 rfl (by decide) _ _ _ rfl hs1 ⟨wr.heap.size, 0, none⟩ 1 1 [_] rfl rfl hc1 (one64 _) (by simp only [maxLen]; omega) (by omega) hB2.size ?_; intro v' w3 hown' hgrow _)
    have hB3 := hB2.grown hgrow hB2.size (fun g hg => (hs1.lt g hg).1)
    go_roundw
    case rel => exact ⟨k + 4, uN + 1, _, acc ++ [z], rfl, by go_num, by omega, Lib.hid (by have := HL.out; simp; omega), by omega, HQ2, HB2, by rw [i64s_append]; exact hown', hB3⟩
    case measure => simp [intOf]; omega
end Go.Proofs.YtdmmiboefdbcdaaDoor

