/-
  spec.Release.
-/
import Derived.Test.YtlppngpafjfjeaaGiveNil
import Derived.Deep.RegionWith
namespace Go.Proofs.Ytlppngpafjfjeaa
open Go.RowKit
set_option linter.unusedVariables false
set_option linter.unusedSimpArgs false
set_option linter.unnecessarySimpa false
set_option maxRecDepth 16000

theorem give_all {fs : List Block} {ba bz : Int} {fv : Value} {w : World} (hR : Rep w w.heap.size (blocks fs) fv) (hcap : ∀ A n c, fv = .slice A n c → n ≤ c) (hf : Fits fs) (hb : 0 ≤ ba ∧ ba ≤ 8192 ∧ 0 ≤ bz ∧ bz ≤ 8192) :
    Calls Try.prog 53 #[fv, .agg #[.int .i64 ba, .int .i64 bz]] w fun e w' => GiveP w fs ⟨ba, bz⟩ e w' := by
  rcases rep_cases hR with ⟨A, c, rfl, rfl⟩ | ⟨g, off, n, c, rfl, hn, hat, hg⟩
  · exact l10Give_nil hb
  · exact l10Give_any hn (hcap _ _ _ rfl) hat hg hf hb
set_option maxHeartbeats 3200000 in
theorem specRel_bad {s : ByteArray} {bs : List Block} {a z : Int} {fv : Value} {w : World} (hs : s.size ≤ 1048576) (R : Rep w w.heap.size (blocks bs) fv) (hw : ∀ b ∈ bs, b.wf) (hm : memOk s bs = false) :
    Calls Try.prog 29 #[.agg #[.string s, fv], .int .i64 a, .int .i64 z] w fun e w' => MemR w (memRel ⟨s, bs⟩ a z) e w' := by
  have HR := Lib.hid R
  obtain ⟨A2, n2, c2, rfl⟩ := R.form
  clear R
  obtain ⟨w0, hw0⟩ : ∃ W, W = ((w.alloc (.cells #[.string s, .slice A2 n2 c2] 29)).alloc (.cells #[.string ⟨#[]⟩, .slice none 0 0] 29)) := ⟨_, rfl⟩
  have bP : Blk w0 w.heap.size 29 #[.string s, .slice A2 n2 c2] := by rw [hw0]; exact (Blk.new w _ _).alloc _
  have bR : Blk w0 (w.heap.size + 1) 29 #[.string ⟨#[]⟩, .slice none 0 0] := by rw [hw0]; have := Blk.new (w.alloc (.cells #[.string s, .slice A2 n2 c2] 29)) 29 #[.string ⟨#[]⟩, .slice none 0 0]; simpa using this
  have hB : Below w.heap.size w w0 := by rw [hw0]; exact ((Below.refl _ _).alloc (Nat.le_refl _) _).alloc (by simp) _
  have hs0 : w0.heap.size = w.heap.size + 2 := by rw [hw0]; simp
  have HW := Lib.hid hw0
  clear hw0
  go_enter Try.func29, Try.ntmps29
  go_wp2_with fail
  rw [← HW.out]
  refine (specMemoryOk_any (by unfold maxLen; omega) hB.size (HR.out.below hB) hw).mono ?_
  rintro e w1 ⟨rfl, hb1⟩
  have bP1 := bP.step hb1
  have bR1 := bR.step hb1
  have hB1 := hB.trans (hb1.mono hB.size)
  have hs1 := hb1.size
  have p0 : w1.cell? ⟨w.heap.size, 0, none⟩ = some (.string s) := bP1.cell 0
  have p1 : w1.cell? ⟨w.heap.size, 1, none⟩ = some (.slice A2 n2 c2) := bP1.cell 1
  have r0 : w1.cell? ⟨w.heap.size + 1, 0, none⟩ = some (.string ⟨#[]⟩) := bR1.cell 0
  have r1 : w1.cell? ⟨w.heap.size + 1, 1, none⟩ = some (.slice none 0 0) := bR1.cell 1
  have f0 := bR1.frozen 0
  have f1 := bR1.frozen 1
  clear bP bP1 bR bR1 hb1
  have HF := Lib.hid (rel_bad (a := a) (z := z) hm)
  rw [hm]
  clear hm
  go_wp2_with fail
  rw [HF.out]
  refine bodyPost_ret (v := .tuple #[.agg #[.string ⟨#[]⟩, .slice none 0 0], .int .i64 1]) (by simp [results, Try.results29, go_sem, r0, r1]) rfl ⟨[.string ⟨#[]⟩, .slice none 0 0], rfl, lvC_mem (nil_blk _ _ (by simp; omega)) _, ?_⟩
  repeat (first | exact hB1 | refine Below.setCell ?_ (by simp; try omega) _)
set_option maxHeartbeats 3200000 in
theorem specRel_zero {s : ByteArray} {bs : List Block} {a z : Int} {fv : Value} {w : World} (hm : memOk s bs = true) (R : Rep w w.heap.size (blocks bs) fv) (hw : ∀ b ∈ bs, b.wf) (ha : (Lit.int .i64 a).wf = true) (hz : (Lit.int .i64 z).wf = true) (h0 : z = 0) :
    Calls Try.prog 29 #[.agg #[.string s, fv], .int .i64 a, .int .i64 z] w fun e w' => MemR w (memRel ⟨s, bs⟩ a z) e w' := by
  have HM := Lib.hid (memF hm)
  have HR := Lib.hid R
  have hs4 := (memF hm).size
  have hl4 := (memF hm).len
  obtain ⟨A2, n2, c2, rfl⟩ := R.form
  clear R
  subst h0
  have HF := Lib.hid (rel_zero (bs := bs) (a := a) hm)
  obtain ⟨w0, hw0⟩ : ∃ W, W = ((w.alloc (.cells #[.string s, .slice A2 n2 c2] 29)).alloc (.cells #[.string ⟨#[]⟩, .slice none 0 0] 29)) := ⟨_, rfl⟩
  have bP : Blk w0 w.heap.size 29 #[.string s, .slice A2 n2 c2] := by rw [hw0]; exact (Blk.new w _ _).alloc _
  have bR : Blk w0 (w.heap.size + 1) 29 #[.string ⟨#[]⟩, .slice none 0 0] := by rw [hw0]; have := Blk.new (w.alloc (.cells #[.string s, .slice A2 n2 c2] 29)) 29 #[.string ⟨#[]⟩, .slice none 0 0]; simpa using this
  have hB : Below w.heap.size w w0 := by rw [hw0]; exact ((Below.refl _ _).alloc (Nat.le_refl _) _).alloc (by simp) _
  have hs0 : w0.heap.size = w.heap.size + 2 := by rw [hw0]; simp
  have HW := Lib.hid hw0
  clear hw0
  go_enter Try.func29, Try.ntmps29
  go_wp2_with fail
  rw [← HW.out]
  refine (specMemoryOk_any (by unfold maxLen; omega) hB.size (HR.out.below hB) hw).mono ?_
  rintro e w1 ⟨rfl, hb1⟩
  rw [hm]
  have bP1 := bP.step hb1
  have bR1 := bR.step hb1
  have hB1 := hB.trans (hb1.mono hB.size)
  have hs1 := hb1.size
  have HR1 := Lib.hid (Rep.more (B' := w1.heap.size) hB1.size _ _ (HR.out.below hB1))
  have p0 : w1.cell? ⟨w.heap.size, 0, none⟩ = some (.string s) := bP1.cell 0
  have p1 : w1.cell? ⟨w.heap.size, 1, none⟩ = some (.slice A2 n2 c2) := bP1.cell 1
  clear hb1 hm
  go_wp2_with fail
  refine (l10Own_any (s := s) (bs := bs) HR1.out (by omega)).mono ?_
  rintro e w2 ⟨g, c, rfl, hown, hb2⟩
  have bR2 := bR1.step hb2
  have hB2 := hB1.trans (hb2.mono hB1.size)
  have hs2 := hb2.size
  have HLX : Hid (Lv w2 (w.heap.size + 2) w2.heap.size (blocks bs) (.slice (some ⟨g, 0, none⟩) bs.length c)) := by
    show Lv _ _ _ _ _
    obtain ⟨F, a1, a2, a3⟩ := lv_blk hown
    exact ⟨F, a1, ⟨a2.1, fun q hq => by have := a2.2 q hq; omega⟩, by omega⟩
  clear p0 p1 bP1 bR1 bR bP hown
  have r0 : w2.cell? ⟨w.heap.size + 1, 0, none⟩ = some (.string ⟨#[]⟩) := bR2.cell 0
  have r1 : w2.cell? ⟨w.heap.size + 1, 1, none⟩ = some (.slice none 0 0) := bR2.cell 1
  have f0 := bR2.frozen 0
  have f1 := bR2.frozen 1
  go_wp2_with fail
  rw [HF.out]
  refine bodyPost_ret (v := .tuple #[.agg #[.string s, .slice (some ⟨g, 0, none⟩) bs.length c], .int .i64 0]) (by simp [results, Try.results29, go_sem, r0, r1]) rfl ⟨[.string s, .slice (some ⟨g, 0, none⟩) bs.length c], rfl, lvC_mem (hold_keep3 HLX.out (q := w.heap.size + 1) (by omega) (by omega)) _, ?_⟩
  repeat (first | exact hB2 | refine Below.setCell ?_ (by simp; try omega) _)
set_option maxHeartbeats 3200000 in
theorem specRel_all {s : ByteArray} {bs : List Block} {a z : Int} {fv : Value} {w : World} (hm : memOk s bs = true) (R : Rep w w.heap.size (blocks bs) fv) (hw : ∀ b ∈ bs, b.wf) (ha : (Lit.int .i64 a).wf = true) (hz : (Lit.int .i64 z).wf = true) (h0 : z ≠ 0) (hcap : ∀ A n c, fv = .slice A n c → n ≤ c) :
    Calls Try.prog 29 #[.agg #[.string s, fv], .int .i64 a, .int .i64 z] w fun e w' => MemR w (memRel ⟨s, bs⟩ a z) e w' := by
  have HM := Lib.hid (memF hm)
  have HR := Lib.hid R
  have hs4 := (memF hm).size
  have hl4 := (memF hm).len
  obtain ⟨A2, n2, c2, rfl⟩ := R.form
  clear R
  have HOK := Lib.hid hm
  obtain ⟨w0, hw0⟩ : ∃ W, W = ((w.alloc (.cells #[.string s, .slice A2 n2 c2] 29)).alloc (.cells #[.string ⟨#[]⟩, .slice none 0 0] 29)) := ⟨_, rfl⟩
  have bP : Blk w0 w.heap.size 29 #[.string s, .slice A2 n2 c2] := by rw [hw0]; exact (Blk.new w _ _).alloc _
  have bR : Blk w0 (w.heap.size + 1) 29 #[.string ⟨#[]⟩, .slice none 0 0] := by rw [hw0]; have := Blk.new (w.alloc (.cells #[.string s, .slice A2 n2 c2] 29)) 29 #[.string ⟨#[]⟩, .slice none 0 0]; simpa using this
  have hB : Below w.heap.size w w0 := by rw [hw0]; exact ((Below.refl _ _).alloc (Nat.le_refl _) _).alloc (by simp) _
  have hs0 : w0.heap.size = w.heap.size + 2 := by rw [hw0]; simp
  have HW := Lib.hid hw0
  clear hw0
  go_enter Try.func29, Try.ntmps29
  go_wp2_with fail
  rw [← HW.out]
  refine (specMemoryOk_any (by unfold maxLen; omega) hB.size (HR.out.below hB) hw).mono ?_
  rintro e w1 ⟨rfl, hb1⟩
  rw [hm]
  have bP1 := bP.step hb1
  have bR1 := bR.step hb1
  have hB1 := hB.trans (hb1.mono hB.size)
  have hs1 := hb1.size
  have HR1 := Lib.hid (Rep.more (B' := w1.heap.size) hB1.size _ _ (HR.out.below hB1))
  have p0 : w1.cell? ⟨w.heap.size, 0, none⟩ = some (.string s) := bP1.cell 0
  have p1 : w1.cell? ⟨w.heap.size, 1, none⟩ = some (.slice A2 n2 c2) := bP1.cell 1
  have hcc := hcap _ _ _ rfl
  clear hb1 hm hcap
  by_cases h8 : a < 8
  case pos =>
    have HF := Lib.hid (rel_no (bs := bs) (s := s) (a := a) (z := z) HOK.out h0 (fun h => by omega))
    have r0 : w1.cell? ⟨w.heap.size + 1, 0, none⟩ = some (.string ⟨#[]⟩) := bR1.cell 0
    have r1 : w1.cell? ⟨w.heap.size + 1, 1, none⟩ = some (.slice none 0 0) := bR1.cell 1
    have f0 := bR1.frozen 0
    have f1 := bR1.frozen 1
    go_wp2_with fail
    rw [HF.out]
    refine bodyPost_ret (v := .tuple #[.agg #[.string ⟨#[]⟩, .slice none 0 0], .int .i64 10]) (by simp [results, Try.results29, go_sem, r0, r1]) rfl ⟨[.string ⟨#[]⟩, .slice none 0 0], rfl, lvC_mem (nil_blk _ _ (by simp; omega)) _, ?_⟩
    repeat (first | exact hB1 | refine Below.setCell ?_ (by simp; try omega) _)
  go_wp2_with fail
  by_cases hin : 0 ≤ a ∧ 0 ≤ z ∧ a ≤ (s.size : Int) ∧ z ≤ (s.size : Int) - a
  case neg =>
    refine (l10In_any (r := false) (by omega) ha hz (by simp only [Bool.false_eq_true, false_iff]; exact hin)).mono ?_
    rintro e w2 ⟨rfl, hb2⟩
    have HF := Lib.hid (rel_no (bs := bs) (s := s) HOK.out h0 (fun h => hin ⟨by omega, h.2.1, h.2.2.1, h.2.2.2.1⟩))
    have bR2 := bR1.step hb2
    have hB2 := hB1.trans (hb2.mono hB1.size)
    have hs2 := hb2.size
    clear hin
    have r0 : w2.cell? ⟨w.heap.size + 1, 0, none⟩ = some (.string ⟨#[]⟩) := bR2.cell 0
    have r1 : w2.cell? ⟨w.heap.size + 1, 1, none⟩ = some (.slice none 0 0) := bR2.cell 1
    have f0 := bR2.frozen 0
    have f1 := bR2.frozen 1
    go_wp2_with fail
    rw [HF.out]
    refine bodyPost_ret (v := .tuple #[.agg #[.string ⟨#[]⟩, .slice none 0 0], .int .i64 10]) (by simp [results, Try.results29, go_sem, r0, r1]) rfl ⟨[.string ⟨#[]⟩, .slice none 0 0], rfl, lvC_mem (nil_blk _ _ (by simp; omega)) _, ?_⟩
    repeat (first | exact hB2 | refine Below.setCell ?_ (by simp; try omega) _)
  refine (l10In_any (r := true) (by omega) ha hz (by simp only [true_iff]; exact hin)).mono ?_
  rintro e w2 ⟨rfl, hb2⟩
  have bR2 := bR1.step hb2
  have bP2 := bP1.step hb2
  have hB2 := hB1.trans (hb2.mono hB1.size)
  have hs2 := hb2.size
  have HR2 := Lib.hid (Rep.more (B' := w2.heap.size) hb2.size _ _ (HR1.out.below hb2))
  clear p0 p1
  have p0 : w2.cell? ⟨w.heap.size, 0, none⟩ = some (.string s) := bP2.cell 0
  have p1 : w2.cell? ⟨w.heap.size, 1, none⟩ = some (.slice A2 n2 c2) := bP2.cell 1
  clear bP1 bR1 bR bP hb2
  go_wp2_with fail
  refine (l10Free_any HR2.out HM.out.fits (by omega)).mono ?_
  rintro e w3 ⟨rfl, hb3⟩
  have bR3 := bR2.step hb3
  have bP3 := bP2.step hb3
  have hB3 := hB2.trans (hb3.mono hB2.size)
  have hs3 := hb3.size
  have HR3 := Lib.hid (Rep.more (B' := w3.heap.size) hb3.size _ _ (HR2.out.below hb3))
  clear p0 p1 bP2 bR2 hb3
  cases hfr : freeAt bs a z
  case true =>
    have HF := Lib.hid (rel_no (bs := bs) (s := s) HOK.out h0 (fun h => by rw [h.2.2.2.2] at hfr; cases hfr))
    clear hfr
    have r0 : w3.cell? ⟨w.heap.size + 1, 0, none⟩ = some (.string ⟨#[]⟩) := bR3.cell 0
    have r1 : w3.cell? ⟨w.heap.size + 1, 1, none⟩ = some (.slice none 0 0) := bR3.cell 1
    have f0 := bR3.frozen 0
    have f1 := bR3.frozen 1
    go_wp2_with fail
    rw [HF.out]
    refine bodyPost_ret (v := .tuple #[.agg #[.string ⟨#[]⟩, .slice none 0 0], .int .i64 10]) (by simp [results, Try.results29, go_sem, r0, r1]) rfl ⟨[.string ⟨#[]⟩, .slice none 0 0], rfl, lvC_mem (nil_blk _ _ (by simp; omega)) _, ?_⟩
    repeat (first | exact hB3 | refine Below.setCell ?_ (by simp; try omega) _)
  have HF := Lib.hid (rel_yes (bs := bs) (s := s) HOK.out h0 ⟨by omega, hin.2.1, hin.2.2.1, hin.2.2.2, hfr⟩)
  clear hfr
  have p0 : w3.cell? ⟨w.heap.size, 0, none⟩ = some (.string s) := bP3.cell 0
  have p1 : w3.cell? ⟨w.heap.size, 1, none⟩ = some (.slice A2 n2 c2) := bP3.cell 1
  have bRd := bR3.drew
  have bPd := bP3.drew
  have d0 : w3.drew.cell? ⟨w.heap.size, 0, none⟩ = some (.string s) := bPd.cell 0
  have d1 : w3.drew.cell? ⟨w.heap.size, 1, none⟩ = some (.slice A2 n2 c2) := bPd.cell 1
  have HCC := Lib.hid hcc
  go_wp2_with fail
  go_region_with (go_at_call 53; refine (give_all (fs := bs) (w := w3.drew) HR3.out.drew (fun A n c e => by cases e; exact HCC.out) HM.out.fits (by omega)).mono ?_; rintro e w4 ⟨u, rfl, hL, hb4⟩; obtain ⟨A4, n4, c4, rfl⟩ := hL.form; have HL4 := Lib.hid hL; have bR4 := bRd.step hb4; have bP4 := bPd.step hb4; have hB4 := hB3.drew.trans (hb4.mono (by have := hB3.size; simpa using this)); have hs4' := hb4.size; have e0 : w4.cell? ⟨w.heap.size, 0, none⟩ = some (.string s) := bP4.cell 0; have r0 : w4.cell? ⟨w.heap.size + 1, 0, none⟩ = some (.string ⟨#[]⟩) := bR4.cell 0; have r1 : w4.cell? ⟨w.heap.size + 1, 1, none⟩ = some (.slice none 0 0) := bR4.cell 1; have f0 := bR4.frozen 0; have f1 := bR4.frozen 1; clear hL)
  all_goals
    go_wp2_with fail
    rw [HF.out]
    have hs5 : w3.heap.size ≤ w4.heap.size := by simpa using hs4'
    have HL5 : Hid (Lv w4 (w.heap.size + 2) w4.heap.size (blocks (giveL bs ⟨a, z⟩)) (.slice A4 n4 c4)) := by
      show Lv _ _ _ _ _
      obtain ⟨F, a1, a2, a3⟩ := HL4.out
      exact ⟨F, a1, ⟨a2.1, fun q hq => by have := a2.2 q hq; have h2 : w3.drew.heap.size = w3.heap.size := rfl; omega⟩, by omega⟩
    refine bodyPost_ret (v := .tuple #[.agg #[.string s, .slice A4 n4 c4], .int .i64 0]) (by simp [results, Try.results29, go_sem, r0, r1]) rfl ⟨[.string s, .slice A4 n4 c4], rfl, lvC_mem (hold_keep3 HL5.out (q := w.heap.size + 1) (by omega) (by omega)) _, ?_⟩
    repeat (first | exact hB4 | refine Below.setCell ?_ (by simp; try omega) _)
end Go.Proofs.Ytlppngpafjfjeaa

