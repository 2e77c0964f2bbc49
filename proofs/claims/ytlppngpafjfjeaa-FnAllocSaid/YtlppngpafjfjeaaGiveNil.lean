/-
  spec.l10Give of an empty slice (by program: gen_givenil.py).
-/
import Derived.Test.YtlppngpafjfjeaaRelF
namespace Go.Proofs.Ytlppngpafjfjeaa
open Go.RowKit
set_option linter.unusedVariables false
set_option linter.unusedSimpArgs false
set_option linter.unnecessarySimpa false
set_option maxRecDepth 16000

set_option maxHeartbeats 12800000 in
theorem l10Give_nil {ba bz : Int} {A : Option Addr} {c : Nat} {w : World} (hb : 0 ≤ ba ∧ ba ≤ 8192 ∧ 0 ≤ bz ∧ bz ≤ 8192) :
    Calls Try.prog 53 #[.slice A 0 c, .agg #[.int .i64 ba, .int .i64 bz]] w fun e w' => GiveP w [] ⟨ba, bz⟩ e w' := by
  obtain ⟨i0, hi, hy0, hy1, hy2⟩ := info_parts block_info
  obtain ⟨w1, hw1⟩ : ∃ W, W = w.alloc (.cells #[.int .i64 ba, .int .i64 bz] 49) := ⟨_, rfl⟩
  have e1 : w1.heap.size = w.heap.size + 1 := by rw [hw1]; simp
  have hB1 : Below w.heap.size w w1 := by rw [hw1]; exact (Below.refl _ _).alloc (Nat.le_refl _) _
  have S0 : GS w (w1.alloc (.cells #[] 49)) 0 0 [] [] (.slice (some ⟨w.heap.size + 1, 0, none⟩) 0 0) ba bz :=
    ⟨by rw [← e1]; exact World.ownsRow_made w1 #[] 0 (Nat.le_refl _) (by simp) (by simp [bvals]), by rw [hw1]; exact (Blk.new w _ _).alloc _, fun k x h => by simp at h, hB1.alloc hB1.size _, by simp; omega⟩
  have HW := Lib.hid hw1
  clear e1 hw1 hB1
  cases A
  all_goals
    go_enter Try.func53, Try.ntmps53
    go_wp2_with fail
    rw [← HW.out]
    go_loopw [5, 6] (fun u i wr => ∃ u' : Value, u' = u ∧ i = .int .i64 0 ∧ GS w wr 0 0 [] [] u' ba bz) (fun _ _ _ => 0)
    case atStart => exact ⟨_, rfl, rfl, S0⟩
    case round =>
      clear S0
      obtain ⟨u', rfl, rfl, S⟩ := hrel
      obtain ⟨uA, uN, uC, rfl, _⟩ := (Own.of_own S.own).form
      have c0 := S.box.cell 0
      have c1 := S.box.cell 1
      go_wp2_with fail
      go_quiet (fail)
      obtain ⟨wd, hwd⟩ : ∃ V, V = wr.drewN nq := ⟨_, rfl⟩
      rw [← hwd]
      have S2 := S.drewN nq
      rw [← hwd] at S2
      clear hwd c0 c1 
      have c0 := S2.box.cell 0
      have c1 := S2.box.cell 1
      go_wp2_with fail
      go_quiet (fail)
      obtain ⟨we, hwd⟩ : ∃ V, V = wd.drewN nq := ⟨_, rfl⟩
      rw [← hwd]
      have S3 := S2.drewN nq
      rw [← hwd] at S3
      clear hwd c0 c1 
      have c0 := S3.box.cell 0
      have c1 := S3.box.cell 1
      go_wp2_with fail
      go_quiet (fail)
      obtain ⟨wf, hwd⟩ : ∃ V, V = we.drewN nq := ⟨_, rfl⟩
      rw [← hwd]
      have S4 := S3.drewN nq
      rw [← hwd] at S4
      clear hwd c0 c1 
      have c0 := S4.box.cell 0
      have c1 := S4.box.cell 1
      have hs1 := S4.own.alloc (.cells #[Value.int .i64 (ba), Value.int .i64 (bz)] 49)
      have hc1 := news_blk wf ⟨ba, bz⟩
      have hB2 : Below w.heap.size w (wf.alloc (.cells #[Value.int .i64 (ba), Value.int .i64 (bz)] 49)) := S4.below.alloc S4.below.size _
      have hz2 : w.heap.size + 1 ≤ (wf.alloc (.cells #[Value.int .i64 (ba), Value.int .i64 (bz)] 49)).heap.size := by have := S4.size; simp; omega
      go_wp2_with (first | (at_builtin; refine wpList_append_own _ rfl _ _ 27 rfl (w.heap.size + 1) 49 i0 (.agg #[.int .i64 0, .int .i64 0]) 2 16 Try.underlying27 hi hy0 hy1 hy2 rfl (by decide) _ _ _ rfl hs1 ⟨wf.heap.size, 0, none⟩ 1 1 (bvals [⟨ba, bz⟩]) rfl rfl hc1 (one_blk _) (by simp only [maxLen, List.length_nil]; omega) (by simp only [List.length_nil]; omega) hz2 ?_; intro v' w3 hown' hgrow _; have hB3 := hB2.grown hgrow (by omega) (fun g hg => by have := (hs1.lt g hg).1; omega); have hz3 : w.heap.size + 1 ≤ w3.heap.size := Nat.le_trans hz2 hgrow.size; obtain ⟨gg, cc, rfl, _, _⟩ := hown'.form (by simp)) | (at_builtin; refine wpList_append_src rfl _ _ 27 rfl (w.heap.size + 1) 49 i0 (.agg #[.int .i64 0, .int .i64 0]) 2 16 Try.underlying27 hi hy0 hy1 hy2 rfl (by decide) _ _ _ rfl hown' _ _ _ rfl (src_blk (rep_nil w3 w3.heap.size _ _)) (one_blk _) (by simp only [maxLen, List.length_nil]; omega) (by simp only [List.length_nil]; omega) hz3 ?_; intro v2 w4 hown2 hgrow2 hat2; have hB4 := hB3.grown hgrow2 (by omega) (fun g hg => by have := (hown'.lt g hg).1; omega); clear hs1 hown'; obtain ⟨g2, c2, rfl, _, _⟩ := hown2.form (by omega)))
      all_goals
        go_wp2_with fail
        go_ret
        exact ⟨_, rfl, lv_done (a := []) (b := [⟨ba, bz⟩]) (c := []) hown2 (Nat.le_succ _), hB4⟩
end Go.Proofs.Ytlppngpafjfjeaa

