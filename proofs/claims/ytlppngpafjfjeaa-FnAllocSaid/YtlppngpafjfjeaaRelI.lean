/-
  impl.Release.
-/
import Derived.Test.YtlppngpafjfjeaaRelA
namespace Go.Proofs.Ytlppngpafjfjeaa
open Go.RowKit
set_option linter.unusedVariables false
set_option linter.unusedSimpArgs false
set_option linter.unnecessarySimpa false
set_option maxRecDepth 16000

theorem rel_bad {s : ByteArray} {bs : List Block} {a z : Int} (h : memOk s bs = false) : memRel ⟨s, bs⟩ a z = (⟨⟨#[]⟩, []⟩, 1) := by rw [memRel, if_neg (by simp [h])]
theorem rel_zero {s : ByteArray} {bs : List Block} {a : Int} (h : memOk s bs = true) : memRel ⟨s, bs⟩ a 0 = (⟨s, bs⟩, 0) := by rw [memRel, if_pos h, if_pos rfl]
theorem rel_yes {s : ByteArray} {bs : List Block} {a z : Int} (h : memOk s bs = true) (hz : z ≠ 0) (hc : 8 ≤ a ∧ 0 ≤ z ∧ a ≤ s.size ∧ z ≤ s.size - a ∧ freeAt bs a z = false) : memRel ⟨s, bs⟩ a z = (⟨s, giveL bs ⟨a, z⟩⟩, 0) := by
  rw [memRel, if_pos h, if_neg hz]; exact if_pos hc
theorem rel_no {s : ByteArray} {bs : List Block} {a z : Int} (h : memOk s bs = true) (hz : z ≠ 0) (hc : ¬ (8 ≤ a ∧ 0 ≤ z ∧ a ≤ s.size ∧ z ≤ s.size - a ∧ freeAt bs a z = false)) : memRel ⟨s, bs⟩ a z = (⟨⟨#[]⟩, []⟩, 10) := by
  rw [memRel, if_pos h, if_neg hz]; exact if_neg hc
set_option maxHeartbeats 3200000 in
theorem implRel_bad {s : ByteArray} {bs : List Block} {a z : Int} {fv : Value} {w : World} (hs : s.size ≤ 1048576) (R : Rep w w.heap.size (blocks bs) fv) (hw : ∀ b ∈ bs, b.wf) (hm : memOk s bs = false) :
    Calls Try.prog 30 #[.agg #[.string s, fv], .int .i64 a, .int .i64 z] w fun e w' => MemR w (memRel ⟨s, bs⟩ a z) e w' := by
  have HR := Lib.hid R
  obtain ⟨A2, n2, c2, rfl⟩ := R.form
  clear R
  obtain ⟨w0, hw0⟩ : ∃ W, W = ((w.alloc (.cells #[.string s, .slice A2 n2 c2] 29)).alloc (.cells #[.string ⟨#[]⟩, .slice none 0 0] 29)) := ⟨_, rfl⟩
  have bP : Blk w0 w.heap.size 29 #[.string s, .slice A2 n2 c2] := by rw [hw0]; exact (Blk.new w _ _).alloc _
  have bR : Blk w0 (w.heap.size + 1) 29 #[.string ⟨#[]⟩, .slice none 0 0] := by rw [hw0]; have := Blk.new (w.alloc (.cells #[.string s, .slice A2 n2 c2] 29)) 29 #[.string ⟨#[]⟩, .slice none 0 0]; simpa using this
  have hB : Below w.heap.size w w0 := by rw [hw0]; exact ((Below.refl _ _).alloc (Nat.le_refl _) _).alloc (by simp) _
  have hs0 : w0.heap.size = w.heap.size + 2 := by rw [hw0]; simp
  have HW := Lib.hid hw0
  clear hw0
  go_enter Try.func30, Try.ntmps30
  go_wp2_with fail
  rw [← HW.out]
  refine (implMemoryOk_any (by unfold maxLen; omega) hB.size (HR.out.below hB) hw).mono ?_
  rintro e w1 ⟨rfl, hb1⟩
  have bP1 := bP.step hb1
  have bR1 := bR.step hb1
  have hB1 := hB.trans (hb1.mono hB.size)
  have hs1 := hb1.size
  have p0 : w1.cell? ⟨w.heap.size, 0, none⟩ = some (.string s) := bP1.cell 0
  have p1 : w1.cell? ⟨w.heap.size, 1, none⟩ = some (.slice A2 n2 c2) := bP1.cell 1
  have r0 : w1.cell? ⟨w.heap.size + 1, 0, none⟩ = some (.string ⟨#[]⟩) := bR1.cell 0
  have r1 : w1.cell? ⟨w.heap.size + 1, 1, none⟩ = some (.slice none 0 0) := bR1.cell 1
  have f0 := bR1.frozen 0
  have f1 := bR1.frozen 1
  clear bP bP1 bR bR1 hb1
  have HF := Lib.hid (rel_bad (a := a) (z := z) hm)
  rw [hm]
  clear hm
  go_wp2_with fail
  rw [HF.out]
  refine bodyPost_ret (v := .tuple #[.agg #[.string ⟨#[]⟩, .slice none 0 0], .int .i64 1]) (by simp [results, Try.results30, go_sem, r0, r1]) rfl ⟨[.string ⟨#[]⟩, .slice none 0 0], rfl, lvC_mem (nil_blk _ _ (by simp; omega)) _, ?_⟩
  repeat (first | exact hB1 | refine Below.setCell ?_ (by simp; try omega) _)
set_option maxHeartbeats 3200000 in
theorem implRel_zero {s : ByteArray} {bs : List Block} {a z : Int} {fv : Value} {w : World} (hm : memOk s bs = true) (R : Rep w w.heap.size (blocks bs) fv) (hw : ∀ b ∈ bs, b.wf) (ha : (Lit.int .i64 a).wf = true) (hz : (Lit.int .i64 z).wf = true) (h0 : z = 0) :
    Calls Try.prog 30 #[.agg #[.string s, fv], .int .i64 a, .int .i64 z] w fun e w' => MemR w (memRel ⟨s, bs⟩ a z) e w' := by
  have HM := Lib.hid (memF hm)
  have HR := Lib.hid R
  have hs4 := (memF hm).size
  have hl4 := (memF hm).len
  obtain ⟨A2, n2, c2, rfl⟩ := R.form
  clear R
  subst h0
  have HF := Lib.hid (rel_zero (bs := bs) (a := a) hm)
  obtain ⟨w0, hw0⟩ : ∃ W, W = ((w.alloc (.cells #[.string s, .slice A2 n2 c2] 29)).alloc (.cells #[.string ⟨#[]⟩, .slice none 0 0] 29)) := ⟨_, rfl⟩
  have bP : Blk w0 w.heap.size 29 #[.string s, .slice A2 n2 c2] := by rw [hw0]; exact (Blk.new w _ _).alloc _
  have bR : Blk w0 (w.heap.size + 1) 29 #[.string ⟨#[]⟩, .slice none 0 0] := by rw [hw0]; have := Blk.new (w.alloc (.cells #[.string s, .slice A2 n2 c2] 29)) 29 #[.string ⟨#[]⟩, .slice none 0 0]; simpa using this
  have hB : Below w.heap.size w w0 := by rw [hw0]; exact ((Below.refl _ _).alloc (Nat.le_refl _) _).alloc (by simp) _
  have hs0 : w0.heap.size = w.heap.size + 2 := by rw [hw0]; simp
  have HW := Lib.hid hw0
  clear hw0
  go_enter Try.func30, Try.ntmps30
  go_wp2_with fail
  rw [← HW.out]
  refine (implMemoryOk_any (by unfold maxLen; omega) hB.size (HR.out.below hB) hw).mono ?_
  rintro e w1 ⟨rfl, hb1⟩
  rw [hm]
  have bP1 := bP.step hb1
  have bR1 := bR.step hb1
  have hB1 := hB.trans (hb1.mono hB.size)
  have hs1 := hb1.size
  have HR1 := Lib.hid (Rep.more (B' := w1.heap.size) hB1.size _ _ (HR.out.below hB1))
  have p0 : w1.cell? ⟨w.heap.size, 0, none⟩ = some (.string s) := bP1.cell 0
  have p1 : w1.cell? ⟨w.heap.size, 1, none⟩ = some (.slice A2 n2 c2) := bP1.cell 1
  clear hb1 hm
  go_wp2_with fail
  refine (storeOf_any (s := s) (bs := bs) (by omega) HR1.out (by omega)).mono ?_
  rintro e w2 ⟨p, bv, fv', rfl, bl, hp, hx, hf, hb2⟩
  have bR2 := bR1.step hb2
  have hB2 := hB1.trans (hb2.mono hB1.size)
  have HXF := Lib.hid (And.intro bl (And.intro hx hf))
  have hpl := bl.lt
  clear p0 p1 bP1 bR1 bR bP bl hx hf
  go_wp2_with fail
  refine (release_zero HXF.out.1 HXF.out.2.1 HXF.out.2.2 (by omega)).mono ?_
  rintro e w3 ⟨bv3, fv3, rfl, bl3, hbv3, hR3, hb3⟩
  have bR3 := bR2.below hb3 (by omega)
  have hB3 := hB2.trans (hb3.mono hB1.size)
  have HG := Lib.hid (And.intro bl3 (And.intro hbv3 hR3))
  have hlen : bs.length ≤ 1048576 := by omega
  clear bl3 hbv3 hR3 bR2
  go_wp2_with fail
  refine (memory_any HG.out.1 HG.out.2.1 HG.out.2.2 hlen).mono ?_
  rintro e w4 ⟨fv4, rfl, hL4, hb4⟩
  have bR4 := bR3.step hb4
  have hB4 := hB3.trans (hb4.mono hB3.size)
  obtain ⟨A4, n4, c4, rfl⟩ := hL4.form
  have HL4 := Lib.hid hL4
  clear hL4 bR3
  have r0 : w4.cell? ⟨w.heap.size + 1, 0, none⟩ = some (.string ⟨#[]⟩) := bR4.cell 0
  have r1 : w4.cell? ⟨w.heap.size + 1, 1, none⟩ = some (.slice none 0 0) := bR4.cell 1
  have f0 := bR4.frozen 0
  have f1 := bR4.frozen 1
  have hs3 := hB3.size
  have hs2 := hb2.size
  have hs3' := hb3.size
  have hs4' := hb4.size
  go_wp2_with fail
  rw [HF.out]
  refine bodyPost_ret (v := .tuple #[.agg #[.string s, .slice A4 n4 c4], .int .i64 0]) (by simp [results, Try.results30, go_sem, r0, r1]) rfl ⟨[.string s, .slice A4 n4 c4], rfl, lvC_mem (hold_keep3 HL4.out (q := w.heap.size + 1) (by omega) (by omega)) _, ?_⟩
  repeat (first | exact hB4 | refine Below.setCell ?_ (by simp; try omega) _)
set_option maxHeartbeats 3200000 in
theorem implRel_all {s : ByteArray} {bs : List Block} {a z : Int} {fv : Value} {w : World} (hm : memOk s bs = true) (R : Rep w w.heap.size (blocks bs) fv) (hw : ∀ b ∈ bs, b.wf) (ha : (Lit.int .i64 a).wf = true) (hz : (Lit.int .i64 z).wf = true) (h0 : z ≠ 0) :
    Calls Try.prog 30 #[.agg #[.string s, fv], .int .i64 a, .int .i64 z] w fun e w' => MemR w (memRel ⟨s, bs⟩ a z) e w' := by
  have HM := Lib.hid (memF hm)
  have HR := Lib.hid R
  have hs4 := (memF hm).size
  have hl4 := (memF hm).len
  obtain ⟨A2, n2, c2, rfl⟩ := R.form
  clear R
  have HOK := Lib.hid hm
  obtain ⟨w0, hw0⟩ : ∃ W, W = ((w.alloc (.cells #[.string s, .slice A2 n2 c2] 29)).alloc (.cells #[.string ⟨#[]⟩, .slice none 0 0] 29)) := ⟨_, rfl⟩
  have bP : Blk w0 w.heap.size 29 #[.string s, .slice A2 n2 c2] := by rw [hw0]; exact (Blk.new w _ _).alloc _
  have bR : Blk w0 (w.heap.size + 1) 29 #[.string ⟨#[]⟩, .slice none 0 0] := by rw [hw0]; have := Blk.new (w.alloc (.cells #[.string s, .slice A2 n2 c2] 29)) 29 #[.string ⟨#[]⟩, .slice none 0 0]; simpa using this
  have hB : Below w.heap.size w w0 := by rw [hw0]; exact ((Below.refl _ _).alloc (Nat.le_refl _) _).alloc (by simp) _
  have hs0 : w0.heap.size = w.heap.size + 2 := by rw [hw0]; simp
  have HW := Lib.hid hw0
  clear hw0
  go_enter Try.func30, Try.ntmps30
  go_wp2_with fail
  rw [← HW.out]
  refine (implMemoryOk_any (by unfold maxLen; omega) hB.size (HR.out.below hB) hw).mono ?_
  rintro e w1 ⟨rfl, hb1⟩
  rw [hm]
  have bP1 := bP.step hb1
  have bR1 := bR.step hb1
  have hB1 := hB.trans (hb1.mono hB.size)
  have hs1 := hb1.size
  have HR1 := Lib.hid (Rep.more (B' := w1.heap.size) hB1.size _ _ (HR.out.below hB1))
  have p0 : w1.cell? ⟨w.heap.size, 0, none⟩ = some (.string s) := bP1.cell 0
  have p1 : w1.cell? ⟨w.heap.size, 1, none⟩ = some (.slice A2 n2 c2) := bP1.cell 1
  clear hb1 hm
  go_wp2_with fail
  refine (storeOf_any (s := s) (bs := bs) (by omega) HR1.out (by omega)).mono ?_
  rintro e w2 ⟨p, bv, fv', rfl, bl, hp, hx, hf, hb2⟩
  have bR2 := bR1.step hb2
  have hB2 := hB1.trans (hb2.mono hB1.size)
  have HXF := Lib.hid (And.intro bl (And.intro hx hf))
  have hpl := bl.lt
  clear p0 p1 bP1 bR1 bR bP bl hx hf
  go_wp2_with fail
  refine (release_all (r := decide (0 ≤ a ∧ 0 ≤ z ∧ a ≤ (s.size : Int) ∧ z ≤ (s.size : Int) - a)) HXF.out.1 HXF.out.2.1 HXF.out.2.2 (by omega) HM.out ha hz h0 (by simp)).mono ?_
  intro e w3 hq
  by_cases hc : 8 ≤ a ∧ 0 ≤ z ∧ a ≤ (s.size : Int) ∧ z ≤ (s.size : Int) - a ∧ freeAt bs a z = false
  case neg =>
    obtain ⟨rfl, hb3⟩ := hq.2 (fun h => hc (by have h2 := of_decide_eq_true h.2.1; exact ⟨h.1, h2.2.1, h2.2.2.1, h2.2.2.2, h.2.2⟩))
    have HF := Lib.hid (rel_no HOK.out h0 hc)
    have bR3 := bR2.below hb3 (by omega)
    have hB3 := hB2.trans (hb3.mono hB1.size)
    clear hq hc
    have r0 : w3.cell? ⟨w.heap.size + 1, 0, none⟩ = some (.string ⟨#[]⟩) := bR3.cell 0
    have r1 : w3.cell? ⟨w.heap.size + 1, 1, none⟩ = some (.slice none 0 0) := bR3.cell 1
    have f0 := bR3.frozen 0
    have f1 := bR3.frozen 1
    have hs3 := hB3.size
    have hs3' := hb3.size
    have hs2 := hb2.size
    go_wp2_with fail
    rw [HF.out]
    refine bodyPost_ret (v := .tuple #[.agg #[.string ⟨#[]⟩, .slice none 0 0], .int .i64 10]) (by simp [results, Try.results30, go_sem, r0, r1]) rfl ⟨[.string ⟨#[]⟩, .slice none 0 0], rfl, lvC_mem (nil_blk _ _ (by simp; omega)) _, ?_⟩
    repeat (first | exact hB3 | refine Below.setCell ?_ (by simp; try omega) _)
  obtain ⟨bv3, fv3, rfl, bl3, hbv3, hR3, hb3⟩ := hq.1 ⟨hc.1, decide_eq_true ⟨by omega, hc.2.1, hc.2.2.1, hc.2.2.2.1⟩, hc.2.2.2.2⟩
  have HF := Lib.hid (rel_yes HOK.out h0 hc)
  have bR3 := bR2.below hb3 (by omega)
  have hB3 := hB2.trans (hb3.mono hB1.size)
  have HG := Lib.hid (And.intro bl3 (And.intro hbv3 hR3))
  clear hq hc
  have hlen : (giveL bs ⟨a, z⟩).length ≤ 1048576 := by have := giveL_len bs ⟨a, z⟩; omega
  clear bl3 hbv3 hR3 bR2
  go_wp2_with fail
  refine (memory_any HG.out.1 HG.out.2.1 HG.out.2.2 hlen).mono ?_
  rintro e w4 ⟨fv4, rfl, hL4, hb4⟩
  have bR4 := bR3.step hb4
  have hB4 := hB3.trans (hb4.mono hB3.size)
  obtain ⟨A4, n4, c4, rfl⟩ := hL4.form
  have HL4 := Lib.hid hL4
  clear hL4 bR3
  have r0 : w4.cell? ⟨w.heap.size + 1, 0, none⟩ = some (.string ⟨#[]⟩) := bR4.cell 0
  have r1 : w4.cell? ⟨w.heap.size + 1, 1, none⟩ = some (.slice none 0 0) := bR4.cell 1
  have f0 := bR4.frozen 0
  have f1 := bR4.frozen 1
  have hs3 := hB3.size
  have hs2 := hb2.size
  have hs3' := hb3.size
  have hs4' := hb4.size
  go_wp2_with fail
  rw [HF.out]
  refine bodyPost_ret (v := .tuple #[.agg #[.string s, .slice A4 n4 c4], .int .i64 0]) (by simp [results, Try.results30, go_sem, r0, r1]) rfl ⟨[.string s, .slice A4 n4 c4], rfl, lvC_mem (hold_keep3 HL4.out (q := w.heap.size + 1) (by omega) (by omega)) _, ?_⟩
  repeat (first | exact hB4 | refine Below.setCell ?_ (by simp; try omega) _)
end Go.Proofs.Ytlppngpafjfjeaa

