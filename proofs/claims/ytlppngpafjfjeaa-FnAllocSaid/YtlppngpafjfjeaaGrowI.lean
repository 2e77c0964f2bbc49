/-
  impl.GrowMem of what is right.
-/
import Derived.Test.YtlppngpafjfjeaaGrowS
namespace Go.Proofs.Ytlppngpafjfjeaa
open Go.RowKit
set_option linter.unusedVariables false
set_option linter.unusedSimpArgs false
set_option linter.unnecessarySimpa false
set_option maxRecDepth 16000

set_option maxHeartbeats 3200000 in
theorem implGrow_yes {s : ByteArray} {bs : List Block} {n : Nat} {fv : Value} {w : World} (hm : memOk s bs = true) (R : Rep w w.heap.size (blocks bs) fv) (hw : ∀ b ∈ bs, b.wf) (hn : s.size + n ≤ 4096) :
    Calls Try.prog 28 #[.agg #[.string s, fv], .int .i64 n] w fun e w' => MemR w (memGrow ⟨s, bs⟩ n) e w' := by
  have HM := Lib.hid (memF hm)
  have HR := Lib.hid R
  have hs4 := (memF hm).size
  have hl4 := (memF hm).len
  obtain ⟨A2, n2, c2, rfl⟩ := R.form
  clear R
  obtain ⟨w0, hw0⟩ : ∃ W, W = ((w.alloc (.cells #[.string s, .slice A2 n2 c2] 29)).alloc (.cells #[.string ⟨#[]⟩, .slice none 0 0] 29)) := ⟨_, rfl⟩
  have bP : Blk w0 w.heap.size 29 #[.string s, .slice A2 n2 c2] := by rw [hw0]; exact (Blk.new w _ _).alloc _
  have bR : Blk w0 (w.heap.size + 1) 29 #[.string ⟨#[]⟩, .slice none 0 0] := by rw [hw0]; have := Blk.new (w.alloc (.cells #[.string s, .slice A2 n2 c2] 29)) 29 #[.string ⟨#[]⟩, .slice none 0 0]; simpa using this
  have hB : Below w.heap.size w w0 := by rw [hw0]; exact ((Below.refl _ _).alloc (Nat.le_refl _) _).alloc (by simp) _
  have hs0 : w0.heap.size = w.heap.size + 2 := by rw [hw0]; simp
  have HW := Lib.hid hw0
  have HF := Lib.hid (grow_fine (bs := bs) hm hn)
  clear hw0
  go_enter Try.func28, Try.ntmps28
  go_wp2_with fail
  rw [← HW.out]
  refine (implMemoryOk_any (by unfold maxLen; omega) hB.size (HR.out.below hB) hw).mono ?_
  rintro e w1 ⟨rfl, hb1⟩
  rw [hm]
  have bP1 := bP.step hb1
  have bR1 := bR.step hb1
  have hB1 := hB.trans (hb1.mono hB.size)
  have hs1 := hb1.size
  have HR1 := Lib.hid (Rep.more (B' := w1.heap.size) hB1.size _ _ (HR.out.below hB1))
  have p0 : w1.cell? ⟨w.heap.size, 0, none⟩ = some (.string s) := bP1.cell 0
  have p1 : w1.cell? ⟨w.heap.size, 1, none⟩ = some (.slice A2 n2 c2) := bP1.cell 1
  clear hb1 hm
  go_wp2_with fail
  refine (length_any s (by unfold maxLen; omega) _).mono ?_
  rintro e w' ⟨rfl, rfl⟩
  go_wp2_with fail
  refine (storeOf_any (s := s) (bs := bs) (by omega) HR1.out (by omega)).mono ?_
  rintro e w2 ⟨p, bv, fv', rfl, bl, hp, hx, hf, hb2⟩
  have bR2 := bR1.step hb2
  have hB2 := hB1.trans (hb2.mono hB1.size)
  have HXF := Lib.hid (And.intro bl (And.intro hx hf))
  have hpl := bl.lt
  clear p0 p1 bP1 bR1 bR bP bl hx hf
  go_wp2_with fail
  refine (grow_any HXF.out.1 HXF.out.2.1 HXF.out.2.2 (by omega) hn HM.out).mono ?_
  rintro e w3 ⟨bv3, fv3, rfl, bl3, hbv3, hR3, hb3⟩
  have bR3 := bR2.below hb3 (by omega)
  have hB3 := hB2.trans (hb3.mono hB1.size)
  have HG := Lib.hid (And.intro bl3 (And.intro hbv3 hR3))
  have hlen : (growL bs s.size n).length ≤ 1048576 := by
    rw [growL]
    split
    · have := giveL_len bs ⟨(max s.size 8 : Nat), ((s.size + n - max s.size 8 : Nat) : Int)⟩
      omega
    · omega
  clear bl3 hbv3 hR3 bR2
  go_wp2_with fail
  refine (memory_any HG.out.1 HG.out.2.1 HG.out.2.2 hlen).mono ?_
  rintro e w4 ⟨fv4, rfl, hL4, hb4⟩
  have bR4 := bR3.step hb4
  have hB4 := hB3.trans (hb4.mono hB3.size)
  obtain ⟨A4, n4, c4, rfl⟩ := hL4.form
  have HL4 := Lib.hid hL4
  clear hL4 bR3
  have r0 : w4.cell? ⟨w.heap.size + 1, 0, none⟩ = some (.string ⟨#[]⟩) := bR4.cell 0
  have r1 : w4.cell? ⟨w.heap.size + 1, 1, none⟩ = some (.slice none 0 0) := bR4.cell 1
  have f0 := bR4.frozen 0
  have f1 := bR4.frozen 1
  have hs3 := hB3.size
  have hs2 := hb2.size
  have hs3' := hb3.size
  have hs4' := hb4.size
  go_wp2_with fail
  rw [HF.out]
  refine bodyPost_ret (v := .tuple #[.agg #[.string (s ++ zerosB n), .slice A4 n4 c4], .int .i64 0]) (by simp [results, Try.results28, go_sem, r0, r1]) rfl ⟨[.string (s ++ zerosB n), .slice A4 n4 c4], rfl, lvC_mem (hold_keep3 HL4.out (q := w.heap.size + 1) (by omega) (by omega)) _, ?_⟩
  repeat (first | exact hB4 | refine Below.setCell ?_ (by simp; try omega) _)
end Go.Proofs.Ytlppngpafjfjeaa

