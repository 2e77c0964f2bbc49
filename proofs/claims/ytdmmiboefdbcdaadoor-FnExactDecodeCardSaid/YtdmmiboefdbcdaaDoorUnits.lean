/-
  impl.units (by program: gen_dec.py).
-/
import Derived.Test.YtdmmiboefdbcdaaDoorDecP
namespace Go.Proofs.YtdmmiboefdbcdaaDoor
open Go.RowKit
set_option linter.unusedVariables false
set_option linter.unusedSimpArgs false
set_option linter.unnecessarySimpa false
set_option maxRecDepth 16000

set_option maxHeartbeats 3200000 in
theorem units_any (s : ByteArray) (hs : s.size ≤ 1048576) (w : World) : Calls Tryd.prog 44 #[.string s] w fun e w' => RowR w w' (unitsL (byt s)) e := by
  obtain ⟨i0, hi, hz0, hz1, hz2⟩ := info_parts info_i64
  have ho0 : (w.alloc (.cells #[] 2)).ownsRow w.heap.size 2 1 (.slice (some ⟨w.heap.size, 0, none⟩) 0 0) 0 (i64s []) := World.ownsRow_made w #[] 0 (Nat.le_refl _) (by simp) (by simp [i64s])
  have hb0 : Below w.heap.size w (w.alloc (.cells #[] 2)) := (Below.refl _ _).alloc (Nat.le_refl _) _
  go_enter Tryd.func44, Tryd.ntmps44
  go_wp2_with fail
  go_loopw [3, 4] (fun u i wr => ∃ (k m : Nat) (u' : Value) (acc : List Int), u' = u ∧ i = .int .i64 k ∧ m ≤ k ∧ k ≤ s.size + 1 ∧ Hid (unitsL (byt s) = acc ++ unitsL ((byt s).drop k)) ∧ wr.ownsRow w.heap.size 2 1 u' m (i64s acc) ∧ Below w.heap.size w wr) (fun _ i _ => s.size + 1 - (intOf i).toNat)
  case atStart => exact ⟨0, 0, _, [], rfl, rfl, Nat.le_refl _, Nat.zero_le _, Lib.hid rfl, ho0, hb0⟩
  case round =>
    clear ho0 hb0
    obtain ⟨k, m, u, acc, rfl, rfl, hm, hk, HQ, hown, hbr⟩ := hrel
    have hsz := hbr.size
    obtain ⟨uA, uN, uC, rfl, _⟩ := (Own.of_own hown).form
    have hk1 : IntKind.i64.wrap ((k : Int) + 1) = (k : Int) + 1 := IntWalk.i64_in _ (by omega)
    by_cases hlt : k + 1 < s.size
    case neg =>
      have HF : Hid (acc = unitsL (byt s)) := by show _ = _; rw [HQ.out, unit_end hlt, List.append_nil]
      have hlt' : ¬ (k : Int) + 1 < (s.size : Int) := by omega
      go_wp2_with fail
      go_ret
      exact ⟨_, _, rfl, by rw [← HF.out]; exact hown, hbr⟩
    have hlt' : (k : Int) + 1 < (s.size : Int) := by omega
    obtain ⟨hu, h0, h1⟩ := unit_at hlt
    have HG := Lib.hid (implGetFix_any (s.extract k (k + 2)) (by simp; omega) wr)
    rw [show v256 (byt (s.extract k (k + 2))) = uAt s k from rfl, wrap64_id (by omega) (by omega)] at HG
    obtain ⟨x, hx⟩ : ∃ x, x = uAt s k := ⟨_, rfl⟩
    rw [← hx] at HG hu h0 h1
    have HQ2 : Hid (unitsL (byt s) = (acc ++ [x]) ++ unitsL ((byt s).drop (k + 2))) := by show _ = _; rw [HQ.out, hu, List.append_assoc]; rfl
    have hk2 : IntKind.i64.wrap ((k : Int) + 2) = ((k + 2 : Nat) : Int) := by rw [IntWalk.i64_in _ (by omega)]; rfl
    have hb1 : (0 : Int) ≤ (k : Int) := by omega
    have hb2 : (k : Int) ≤ ((k + 2 : Nat) : Int) := by omega
    have hb3 : ((k + 2 : Nat) : Int) ≤ (s.size : Int) := by omega
    clear hu hx
    have hs1 := hown.alloc (.cells #[Value.int .i64 (x)] 2)
    have hc1 := cell_one_new wr (Value.int .i64 (x)) 2
    have hB2 : Below w.heap.size w (wr.alloc (.cells #[Value.int .i64 (x)] 2)) := hbr.alloc hbr.size _
    clear hown
    go_wp2_with (first | (go_at_call 51; refine HG.out.mono ?_; rintro e w' ⟨rfl, rfl⟩) | (at_builtin; refine wpList_append_own _ rfl _ _ 22 rfl w.heap.size 2 i0 (.int .i64 0) 1 8 Tryd.underlying22 hi hz0 hz1 hz2 rfl (by decide) _ _ _ rfl hs1 ⟨wr.heap.size, 0, none⟩ 1 1 [_] rfl rfl hc1 (one64 _) (by simp only [maxLen]; omega) (by omega) hB2.size ?_; intro v' w3 hown' hgrow _))
    have hB3 := hB2.grown hgrow hB2.size (fun g hg => (hs1.lt g hg).1)
    go_roundw
    case rel => exact ⟨k + 2, m + 1, _, acc ++ [x], rfl, by go_num, by omega, by omega, HQ2, by rw [i64s_append]; exact hown', hB3⟩
    case measure => simp [intOf]; omega
end Go.Proofs.YtdmmiboefdbcdaaDoor

