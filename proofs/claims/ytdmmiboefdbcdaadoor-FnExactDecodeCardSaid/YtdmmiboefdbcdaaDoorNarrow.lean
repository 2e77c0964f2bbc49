/-
  spec.l11Narrow (by program: gen_dec.py).
-/
import Derived.Test.YtdmmiboefdbcdaaDoorDecP
namespace Go.Proofs.YtdmmiboefdbcdaaDoor
open Go.RowKit
set_option linter.unusedVariables false
set_option linter.unusedSimpArgs false
set_option linter.unnecessarySimpa false
set_option maxRecDepth 16000

set_option maxHeartbeats 3200000 in
theorem narrow_any (s : ByteArray) (hs : s.size ≤ 1048576) (w : World) : Calls Tryd.prog 43 #[.string s] w fun e w' => RowR w w' ((byt s).take 25) e := by
  obtain ⟨i0, hi, hz0, hz1, hz2⟩ := info_parts info_i64
  have ho0 : (w.alloc (.cells #[] 2)).ownsRow w.heap.size 2 1 (.slice (some ⟨w.heap.size, 0, none⟩) 0 0) 0 (i64s []) := World.ownsRow_made w #[] 0 (Nat.le_refl _) (by simp) (by simp [i64s])
  have hb0 : Below w.heap.size w (w.alloc (.cells #[] 2)) := (Below.refl _ _).alloc (Nat.le_refl _) _
  go_enter Tryd.func43, Tryd.ntmps43
  go_wp2_with fail
  go_loopw [3, 4] (fun u i wr => ∃ (k : Nat) (u' : Value), u' = u ∧ i = .int .i64 k ∧ k ≤ s.size ∧ k ≤ 25 ∧ wr.ownsRow w.heap.size 2 1 u' k (i64s ((byt s).take k)) ∧ Below w.heap.size w wr) (fun _ i _ => s.size - (intOf i).toNat)
  case atStart => exact ⟨0, _, rfl, rfl, Nat.zero_le _, Nat.zero_le _, ho0, hb0⟩
  case round =>
    clear ho0 hb0
    obtain ⟨k, u, rfl, rfl, hk, hk25, hown, hbr⟩ := hrel
    have hsz := hbr.size
    obtain ⟨uA, uN, uC, rfl, _⟩ := (Own.of_own hown).form
    by_cases hlt : k < s.size
    case neg =>
      have HF : Hid ((byt s).take k = (byt s).take 25) := by show _ = _; rw [List.take_of_length_le (by simp; omega), List.take_of_length_le (by simp; omega)]
      go_wp2_with fail
      go_ret
      exact ⟨_, _, rfl, by rw [← HF.out]; exact hown, hbr⟩
    by_cases h24 : k ≤ 24
    case neg =>
      have hk5 : k = 25 := by omega
      subst hk5
      go_wp2_with fail
      go_ret
      exact ⟨_, _, rfl, hown, hbr⟩
    have hb := byt_get hlt
    have hb255 : s[k].toNat < 256 := s[k].toNat_lt
    obtain ⟨x, hx⟩ : ∃ x : Int, x = ((s[k].toNat : Nat) : Int) := ⟨_, rfl⟩
    have hx64 : wrap64 ((s[k].toNat : Nat) : Int) = x := by rw [hx]; exact wrap64_id (by omega) (by omega)
    have HT : Hid (i64s ((byt s).take k) ++ [Value.int .i64 ((s[k].toNat : Nat) : Int)] = i64s ((byt s).take (k + 1))) := by show _ = _; rw [List.take_add_one, hb, Option.toList_some, i64s_append]; rfl
    clear hb hx hx64
    have hs1 := hown.alloc (.cells #[Value.int .i64 (((s[k].toNat : Nat) : Int))] 2)
    have hc1 := cell_one_new wr (Value.int .i64 (((s[k].toNat : Nat) : Int))) 2
    have hB2 : Below w.heap.size w (wr.alloc (.cells #[Value.int .i64 (((s[k].toNat : Nat) : Int))] 2)) := hbr.alloc hbr.size _
    clear hown
    go_wp2_with (at_builtin; refine wpList_append_own _ rfl _ _ 22 rfl w.heap.size 2 i0 (.int .i64 0) 1 8 Tryd.underlying22 hi hz0 hz1 hz2 rfl (by decide) _ _ _ rfl hs1 ⟨wr.heap.size, 0, none⟩ 1 1 [_] rfl rfl hc1 (one64 _) (by simp only [maxLen]; omega) (by omega) hB2.size ?_; intro v' w3 hown' hgrow _)
    have hB3 := hB2.grown hgrow hB2.size (fun g hg => (hs1.lt g hg).1)
    go_roundw
    case rel => exact ⟨k + 1, _, rfl, by go_num, by omega, by omega, by rw [HT.out] at hown'; exact hown', hB3⟩
    case measure => simp [intOf]; omega
end Go.Proofs.YtdmmiboefdbcdaaDoor

