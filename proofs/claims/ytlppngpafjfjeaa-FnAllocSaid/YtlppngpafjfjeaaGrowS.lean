/-
  spec.GrowMem and impl.GrowMem.
-/
import Derived.Test.YtlppngpafjfjeaaGrowO
namespace Go.Proofs.Ytlppngpafjfjeaa
open Go.RowKit
set_option linter.unusedVariables false
set_option linter.unusedSimpArgs false
set_option linter.unnecessarySimpa false
set_option maxRecDepth 16000

theorem grow_bad {s : ByteArray} {bs : List Block} {n : Int} (h : memOk s bs = false) : memGrow ⟨s, bs⟩ n = (⟨⟨#[]⟩, []⟩, 1) := by rw [memGrow, if_neg (by simp [h])]
theorem grow_neg {s : ByteArray} {bs : List Block} {n : Int} (h : memOk s bs = true) (h1 : n < 0) : memGrow ⟨s, bs⟩ n = (⟨⟨#[]⟩, []⟩, 2) := by rw [memGrow, if_pos h, if_pos h1]
theorem grow_many {s : ByteArray} {bs : List Block} {n : Int} (h : memOk s bs = true) (h1 : ¬ n < 0) (h2 : 4096 - (s.size : Int) < n) : memGrow ⟨s, bs⟩ n = (⟨⟨#[]⟩, []⟩, 4) := by rw [memGrow, if_pos h, if_neg h1, if_pos h2]
theorem grow_fine {s : ByteArray} {bs : List Block} {n : Nat} (h : memOk s bs = true) (h2 : s.size + n ≤ 4096) : memGrow ⟨s, bs⟩ (n : Int) = (⟨s ++ zerosB n, growL bs s.size n⟩, 0) := by
  rw [memGrow, if_pos h, if_neg (by omega), if_neg (by show ¬ 4096 - (s.size : Int) < _; omega)]; rfl
theorem hold_keep3 {w : World} {bs : List Block} {fv : Value} {lo q r : Nat} {u0 u1 : Value} (h : Lv w r w.heap.size (blocks bs) fv) (h1 : q < r) (h2 : lo ≤ q) : Lv ((w.setCell ⟨q, 0, none⟩ u0).setCell ⟨q, 1, none⟩ u1) lo ((w.setCell ⟨q, 0, none⟩ u0).setCell ⟨q, 1, none⟩ u1).heap.size (blocks bs) fv := by
  obtain ⟨F, a1, a2, a3⟩ := h
  have h3 := Keep.setCell (Keep.setCell (Keep.refl q (q + 1) w) (p := ⟨q, 0, none⟩) (Nat.le_refl _) (Nat.lt_succ_self _) u0) (p := ⟨q, 1, none⟩) (Nat.le_refl _) (Nat.lt_succ_self _) u1
  exact ⟨F, Hold.keep _ _ F a1 fun g hg => h3.block g (by have := a2.2 g hg; omega) (.inr (by have := a2.2 g hg; omega)), ⟨a2.1, fun g hg => by have := a2.2 g hg; simp; omega⟩, by simp⟩
set_option maxHeartbeats 3200000 in
theorem implGrow_no {s : ByteArray} {bs : List Block} {n : Int} {fv : Value} {w : World} (hs : s.size ≤ 1048576) (R : Rep w w.heap.size (blocks bs) fv) (hw : ∀ b ∈ bs, b.wf) (hn : (Lit.int .i64 n).wf = true) (hc : ¬ (memOk s bs = true ∧ 0 ≤ n ∧ n ≤ 4096 - (s.size : Int))) :
    Calls Try.prog 28 #[.agg #[.string s, fv], .int .i64 n] w fun e w' => MemR w (memGrow ⟨s, bs⟩ n) e w' := by
  have HR := Lib.hid R
  obtain ⟨A2, n2, c2, rfl⟩ := R.form
  clear R
  obtain ⟨w0, hw0⟩ : ∃ W, W = ((w.alloc (.cells #[.string s, .slice A2 n2 c2] 29)).alloc (.cells #[.string ⟨#[]⟩, .slice none 0 0] 29)) := ⟨_, rfl⟩
  have bP : Blk w0 w.heap.size 29 #[.string s, .slice A2 n2 c2] := by rw [hw0]; exact (Blk.new w _ _).alloc _
  have bR : Blk w0 (w.heap.size + 1) 29 #[.string ⟨#[]⟩, .slice none 0 0] := by rw [hw0]; have := Blk.new (w.alloc (.cells #[.string s, .slice A2 n2 c2] 29)) 29 #[.string ⟨#[]⟩, .slice none 0 0]; simpa using this
  have hB : Below w.heap.size w w0 := by rw [hw0]; exact ((Below.refl _ _).alloc (Nat.le_refl _) _).alloc (by simp) _
  have hs0 : w0.heap.size = w.heap.size + 2 := by rw [hw0]; simp
  have HW := Lib.hid hw0
  clear hw0
  go_enter Try.func28, Try.ntmps28
  go_wp2_with fail
  rw [← HW.out]
  refine (implMemoryOk_any (by unfold maxLen; omega) hB.size (HR.out.below hB) hw).mono ?_
  rintro e w1 ⟨rfl, hb1⟩
  have bP1 := bP.step hb1
  have bR1 := bR.step hb1
  have hB1 := hB.trans (hb1.mono hB.size)
  have hs1 := hb1.size
  have p0 : w1.cell? ⟨w.heap.size, 0, none⟩ = some (.string s) := bP1.cell 0
  have p1 : w1.cell? ⟨w.heap.size, 1, none⟩ = some (.slice A2 n2 c2) := bP1.cell 1
  have r0 : w1.cell? ⟨w.heap.size + 1, 0, none⟩ = some (.string ⟨#[]⟩) := bR1.cell 0
  have r1 : w1.cell? ⟨w.heap.size + 1, 1, none⟩ = some (.slice none 0 0) := bR1.cell 1
  have f0 := bR1.frozen 0
  have f1 := bR1.frozen 1
  clear bP bP1 bR bR1 hb1
  cases hm : memOk s bs
  case false =>
    have HF := Lib.hid (grow_bad (n := n) hm)
    clear hm hc
    go_wp2_with fail
    rw [HF.out]
    refine bodyPost_ret (v := .tuple #[.agg #[.string ⟨#[]⟩, .slice none 0 0], .int .i64 1]) (by simp [results, Try.results28, go_sem, r0, r1]) rfl ⟨[.string ⟨#[]⟩, .slice none 0 0], rfl, lvC_mem (nil_blk _ _ (by simp; omega)) _, ?_⟩
    repeat (first | exact hB1 | refine Below.setCell ?_ (by simp; try omega) _)
  by_cases h0 : n < 0
  case pos =>
    have HF := Lib.hid (grow_neg hm h0)
    clear hm hc
    go_wp2_with fail
    rw [HF.out]
    refine bodyPost_ret (v := .tuple #[.agg #[.string ⟨#[]⟩, .slice none 0 0], .int .i64 2]) (by simp [results, Try.results28, go_sem, r0, r1]) rfl ⟨[.string ⟨#[]⟩, .slice none 0 0], rfl, lvC_mem (nil_blk _ _ (by simp; omega)) _, ?_⟩
    repeat (first | exact hB1 | refine Below.setCell ?_ (by simp; try omega) _)
  have h2 : 4096 - (s.size : Int) < n := by simp only [hm, true_and] at hc; omega
  have HF := Lib.hid (grow_many hm h0 h2)
  have hs4 := (memF hm).size
  clear hm hc
  go_wp2_with fail
  refine (length_any s (by unfold maxLen; omega) _).mono ?_
  rintro e w' ⟨rfl, rfl⟩
  go_wp2_with fail
  rw [HF.out]
  refine bodyPost_ret (v := .tuple #[.agg #[.string ⟨#[]⟩, .slice none 0 0], .int .i64 4]) (by simp [results, Try.results28, go_sem, r0, r1]) rfl ⟨[.string ⟨#[]⟩, .slice none 0 0], rfl, lvC_mem (nil_blk _ _ (by simp; omega)) _, ?_⟩
  repeat (first | exact hB1 | refine Below.setCell ?_ (by simp; try omega) _)
set_option maxHeartbeats 3200000 in
theorem specGrow_no {s : ByteArray} {bs : List Block} {n : Int} {fv : Value} {w : World} (hs : s.size ≤ 1048576) (R : Rep w w.heap.size (blocks bs) fv) (hw : ∀ b ∈ bs, b.wf) (hn : (Lit.int .i64 n).wf = true) (hc : ¬ (memOk s bs = true ∧ 0 ≤ n ∧ n ≤ 4096 - (s.size : Int))) :
    Calls Try.prog 27 #[.agg #[.string s, fv], .int .i64 n] w fun e w' => MemR w (memGrow ⟨s, bs⟩ n) e w' := by
  have HR := Lib.hid R
  obtain ⟨A2, n2, c2, rfl⟩ := R.form
  clear R
  obtain ⟨w0, hw0⟩ : ∃ W, W = ((w.alloc (.cells #[.string s, .slice A2 n2 c2] 29)).alloc (.cells #[.string ⟨#[]⟩, .slice none 0 0] 29)) := ⟨_, rfl⟩
  have bP : Blk w0 w.heap.size 29 #[.string s, .slice A2 n2 c2] := by rw [hw0]; exact (Blk.new w _ _).alloc _
  have bR : Blk w0 (w.heap.size + 1) 29 #[.string ⟨#[]⟩, .slice none 0 0] := by rw [hw0]; have := Blk.new (w.alloc (.cells #[.string s, .slice A2 n2 c2] 29)) 29 #[.string ⟨#[]⟩, .slice none 0 0]; simpa using this
  have hB : Below w.heap.size w w0 := by rw [hw0]; exact ((Below.refl _ _).alloc (Nat.le_refl _) _).alloc (by simp) _
  have hs0 : w0.heap.size = w.heap.size + 2 := by rw [hw0]; simp
  have HW := Lib.hid hw0
  clear hw0
  go_enter Try.func27, Try.ntmps27
  go_wp2_with fail
  rw [← HW.out]
  refine (specMemoryOk_any (by unfold maxLen; omega) hB.size (HR.out.below hB) hw).mono ?_
  rintro e w1 ⟨rfl, hb1⟩
  have bP1 := bP.step hb1
  have bR1 := bR.step hb1
  have hB1 := hB.trans (hb1.mono hB.size)
  have hs1 := hb1.size
  have p0 : w1.cell? ⟨w.heap.size, 0, none⟩ = some (.string s) := bP1.cell 0
  have p1 : w1.cell? ⟨w.heap.size, 1, none⟩ = some (.slice A2 n2 c2) := bP1.cell 1
  have r0 : w1.cell? ⟨w.heap.size + 1, 0, none⟩ = some (.string ⟨#[]⟩) := bR1.cell 0
  have r1 : w1.cell? ⟨w.heap.size + 1, 1, none⟩ = some (.slice none 0 0) := bR1.cell 1
  have f0 := bR1.frozen 0
  have f1 := bR1.frozen 1
  clear bP bP1 bR bR1 hb1
  cases hm : memOk s bs
  case false =>
    have HF := Lib.hid (grow_bad (n := n) hm)
    clear hm hc
    go_wp2_with fail
    rw [HF.out]
    refine bodyPost_ret (v := .tuple #[.agg #[.string ⟨#[]⟩, .slice none 0 0], .int .i64 1]) (by simp [results, Try.results27, go_sem, r0, r1]) rfl ⟨[.string ⟨#[]⟩, .slice none 0 0], rfl, lvC_mem (nil_blk _ _ (by simp; omega)) _, ?_⟩
    repeat (first | exact hB1 | refine Below.setCell ?_ (by simp; try omega) _)
  by_cases h0 : n < 0
  case pos =>
    have HF := Lib.hid (grow_neg hm h0)
    clear hm hc
    go_wp2_with fail
    rw [HF.out]
    refine bodyPost_ret (v := .tuple #[.agg #[.string ⟨#[]⟩, .slice none 0 0], .int .i64 2]) (by simp [results, Try.results27, go_sem, r0, r1]) rfl ⟨[.string ⟨#[]⟩, .slice none 0 0], rfl, lvC_mem (nil_blk _ _ (by simp; omega)) _, ?_⟩
    repeat (first | exact hB1 | refine Below.setCell ?_ (by simp; try omega) _)
  have h2 : 4096 - (s.size : Int) < n := by simp only [hm, true_and] at hc; omega
  have HF := Lib.hid (grow_many hm h0 h2)
  have hs4 := (memF hm).size
  clear hm hc
  go_wp2_with fail
  rw [HF.out]
  refine bodyPost_ret (v := .tuple #[.agg #[.string ⟨#[]⟩, .slice none 0 0], .int .i64 4]) (by simp [results, Try.results27, go_sem, r0, r1]) rfl ⟨[.string ⟨#[]⟩, .slice none 0 0], rfl, lvC_mem (nil_blk _ _ (by simp; omega)) _, ?_⟩
  repeat (first | exact hB1 | refine Below.setCell ?_ (by simp; try omega) _)
end Go.Proofs.Ytlppngpafjfjeaa

