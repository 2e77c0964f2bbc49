/-
  l10Made keeps the memory right: plain.
  spec.Release hands on a row of its own (by program: gen_relo.py).
  spec.l10Write within the memory: the row is its own.
  spec.NewMemory hands on a row of its own (by program: gen_newo.py).
  A parameter of bytes; laws.b10Long, laws.b10At.
  spec's draws: next, pick, one, among, word.
  spec's draws: word.
  FnFree: the plain law: the free blocks and the taken ones part the memory.
  spec.SameMemory and impl.SameMemory return the same bool.
  FnFree: where the walk stands.
  spec.FreeBytes and impl.FreeBytes return the same number.
  l10Made: where the walk stands.
-/
import Derived.Test.YtlppngpafjfjeaaMemC
import Derived.Test.YtlppngpafjfjeaaRelP
import Derived.Test.YtlppngpafjfjeaaGiveO
import Derived.Deep.RegionWith
import Derived.Test.YtlppngpafjfjeaaNewMem
import Derived.Test.YtlppngpafjfjeaaBase
import Derived.Test.YtlppngpafjfjeaaRows
import Derived.Laws.BitsAllLaws
import Derived.Laws.Shifts
import Derived.Laws.Bits64b
import Derived.Test.YtlppngpafjfjeaaGrw
import Derived.Laws.BytesArg
import Derived.Laws.BitsLemmas
import Derived.Laws.AppendOwnNone
import Derived.Test.YtlppngpafjfjeaaMemK
import Derived.Laws.StructEq
import Derived.Test.YtlppngpafjfjeaaAllW
namespace Go.Proofs.Ytlppngpafjfjeaa
set_option linter.unusedVariables false
set_option linter.unusedSimpArgs false

theorem memOk_size {s s' : ByteArray} {bs : List Block} (h : s'.size = s.size) (hm : memOk s bs = true) : memOk s' bs = true := by
  rw [memOk_iff] at hm ⊢
  rw [h]
  exact hm
theorem memOk_alloc {s : ByteArray} {fs l : List Block} {z t : Int} {a : Nat} (hm : memOk s fs = true) (hz : 0 < z) (ha : 1 ≤ a) (h : allocR fs z a = some (l, t)) : memOk s l = true ∧ 0 ≤ t ∧ t + z ≤ s.size := by
  rw [memOk_iff] at hm ⊢
  have H := allocR_ok hm.2 (by omega) hz ha h
  have hb := H.2.2.2.1
  have hc := H.2.2.2.2.1
  exact ⟨⟨hm.1, H.1⟩, by omega, hc⟩
theorem memOk_rel {s : ByteArray} {bs : List Block} (a z : Int) (hm : memOk s bs = true) : memOk (memRel ⟨s, bs⟩ a z).1.bytes (memRel ⟨s, bs⟩ a z).1.free = true := by
  have h0 : memOk ⟨#[]⟩ [] = true := by decide
  unfold memRel
  rw [if_pos hm]
  split
  · exact hm
  · split
    · next h1 h2 =>
      rw [memOk_iff] at hm ⊢
      obtain ⟨h3, h4, h5, h6, h7⟩ := h2
      have h5' : a ≤ (s.size : Int) := h5
      have h6' : z ≤ (s.size : Int) - a := h6
      refine ⟨hm.1, (giveL_ok hm.2 (by show 0 < z; omega) (by show (7 : Int) < a; omega) (by show a + z ≤ _; omega) ?_).1⟩
      exact fun x hx => freeAt_no h7 x hx
    · exact h0
end Go.Proofs.Ytlppngpafjfjeaa

namespace Go.Proofs.Ytlppngpafjfjeaa
open Go.RowKit
set_option linter.unusedVariables false
set_option linter.unusedSimpArgs false
set_option linter.unnecessarySimpa false
set_option maxRecDepth 16000

theorem owns_mono2 {w : World} {b b' sz n : Nat} {e : TypeId} {v : Value} {xs : List Value} (h : w.ownsRow b' e sz v n xs) (hb : b ≤ b') : w.ownsRow b e sz v n xs := by
  obtain ⟨h1, h2⟩ := h
  refine ⟨h1, ?_⟩
  rcases h2 with h2 | ⟨g, cap, cur, hv, hbb, rest⟩
  · exact .inl h2
  · exact .inr ⟨g, cap, cur, hv, by omega, rest⟩
theorem owns_form {w : World} {b sz n : Nat} {e : TypeId} {v : Value} {xs : List Value} (h : w.ownsRow b e sz v n xs) : ∃ A n' c, v = .slice A n' c := by
  rcases h.2 with ⟨rfl, _⟩ | ⟨g, cap, cur, hv, _⟩
  · exact ⟨_, _, _, rfl⟩
  · exact ⟨_, _, _, hv⟩
theorem own_nil (w : World) (b : Nat) : w.ownsRow b 49 2 (.slice none 0 0) 0 [] := ⟨rfl, .inl ⟨rfl, rfl⟩⟩
/-- a memory and an answer, the memory's row its own: it lies above the two boxes of the call -/
def MemO (w : World) (r : Memory × Int) (e : Ending) (w' : World) : Prop :=
  ∃ u, e = .returned (.tuple #[.agg #[.string r.1.bytes, u], .int .i64 r.2]) ∧ w'.ownsRow (w.heap.size + 2) 49 2 u r.1.free.length (bvals r.1.free) ∧ Below w.heap.size w w'
set_option maxHeartbeats 3200000 in
theorem specRelO_bad {s : ByteArray} {bs : List Block} {a z : Int} {fv : Value} {w : World} (hs : s.size ≤ 1048576) (R : Rep w w.heap.size (blocks bs) fv) (hw : ∀ b ∈ bs, b.wf) (hm : memOk s bs = false) :
    Calls Try.prog 29 #[.agg #[.string s, fv], .int .i64 a, .int .i64 z] w fun e w' => MemO w (memRel ⟨s, bs⟩ a z) e w' := by
  have HR := Lib.hid R
  obtain ⟨A2, n2, c2, rfl⟩ := R.form
  clear R
  obtain ⟨w0, hw0⟩ : ∃ W, W = ((w.alloc (.cells #[.string s, .slice A2 n2 c2] 29)).alloc (.cells #[.string ⟨#[]⟩, .slice none 0 0] 29)) := ⟨_, rfl⟩
  have bP : Blk w0 w.heap.size 29 #[.string s, .slice A2 n2 c2] := by rw [hw0]; exact (Blk.new w _ _).alloc _
  have bR : Blk w0 (w.heap.size + 1) 29 #[.string ⟨#[]⟩, .slice none 0 0] := by rw [hw0]; have := Blk.new (w.alloc (.cells #[.string s, .slice A2 n2 c2] 29)) 29 #[.string ⟨#[]⟩, .slice none 0 0]; simpa using this
  have hB : Below w.heap.size w w0 := by rw [hw0]; exact ((Below.refl _ _).alloc (Nat.le_refl _) _).alloc (by simp) _
  have hs0 : w0.heap.size = w.heap.size + 2 := by rw [hw0]; simp
  have HW := Lib.hid hw0
  clear hw0
  go_enter Try.func29, Try.ntmps29
  go_wp2_with fail
  rw [← HW.out]
  refine (specMemoryOk_any (by unfold maxLen; omega) hB.size (HR.out.below hB) hw).mono ?_
  rintro e w1 ⟨rfl, hb1⟩
  have bP1 := bP.step hb1
  have bR1 := bR.step hb1
  have hB1 := hB.trans (hb1.mono hB.size)
  have hs1 := hb1.size
  have p0 : w1.cell? ⟨w.heap.size, 0, none⟩ = some (.string s) := bP1.cell 0
  have p1 : w1.cell? ⟨w.heap.size, 1, none⟩ = some (.slice A2 n2 c2) := bP1.cell 1
  have r0 : w1.cell? ⟨w.heap.size + 1, 0, none⟩ = some (.string ⟨#[]⟩) := bR1.cell 0
  have r1 : w1.cell? ⟨w.heap.size + 1, 1, none⟩ = some (.slice none 0 0) := bR1.cell 1
  have f0 := bR1.frozen 0
  have f1 := bR1.frozen 1
  clear bP bP1 bR bR1 hb1
  have HF := Lib.hid (rel_bad (a := a) (z := z) hm)
  rw [hm]
  clear hm
  go_wp2_with fail
  rw [HF.out]
  refine bodyPost_ret (v := .tuple #[.agg #[.string ⟨#[]⟩, .slice none 0 0], .int .i64 1]) (by simp [results, Try.results29, go_sem, r0, r1]) rfl ⟨.slice none 0 0, rfl, own_nil _ _, ?_⟩
  repeat (first | exact hB1 | refine Below.setCell ?_ (by simp; try omega) _)
set_option maxHeartbeats 3200000 in
theorem specRelO_zero {s : ByteArray} {bs : List Block} {a z : Int} {fv : Value} {w : World} (hm : memOk s bs = true) (R : Rep w w.heap.size (blocks bs) fv) (hw : ∀ b ∈ bs, b.wf) (ha : (Lit.int .i64 a).wf = true) (hz : (Lit.int .i64 z).wf = true) (h0 : z = 0) :
    Calls Try.prog 29 #[.agg #[.string s, fv], .int .i64 a, .int .i64 z] w fun e w' => MemO w (memRel ⟨s, bs⟩ a z) e w' := by
  have HM := Lib.hid (memF hm)
  have HR := Lib.hid R
  have hs4 := (memF hm).size
  have hl4 := (memF hm).len
  obtain ⟨A2, n2, c2, rfl⟩ := R.form
  clear R
  subst h0
  have HF := Lib.hid (rel_zero (bs := bs) (a := a) hm)
  obtain ⟨w0, hw0⟩ : ∃ W, W = ((w.alloc (.cells #[.string s, .slice A2 n2 c2] 29)).alloc (.cells #[.string ⟨#[]⟩, .slice none 0 0] 29)) := ⟨_, rfl⟩
  have bP : Blk w0 w.heap.size 29 #[.string s, .slice A2 n2 c2] := by rw [hw0]; exact (Blk.new w _ _).alloc _
  have bR : Blk w0 (w.heap.size + 1) 29 #[.string ⟨#[]⟩, .slice none 0 0] := by rw [hw0]; have := Blk.new (w.alloc (.cells #[.string s, .slice A2 n2 c2] 29)) 29 #[.string ⟨#[]⟩, .slice none 0 0]; simpa using this
  have hB : Below w.heap.size w w0 := by rw [hw0]; exact ((Below.refl _ _).alloc (Nat.le_refl _) _).alloc (by simp) _
  have hs0 : w0.heap.size = w.heap.size + 2 := by rw [hw0]; simp
  have HW := Lib.hid hw0
  clear hw0
  go_enter Try.func29, Try.ntmps29
  go_wp2_with fail
  rw [← HW.out]
  refine (specMemoryOk_any (by unfold maxLen; omega) hB.size (HR.out.below hB) hw).mono ?_
  rintro e w1 ⟨rfl, hb1⟩
  rw [hm]
  have bP1 := bP.step hb1
  have bR1 := bR.step hb1
  have hB1 := hB.trans (hb1.mono hB.size)
  have hs1 := hb1.size
  have HR1 := Lib.hid (Rep.more (B' := w1.heap.size) hB1.size _ _ (HR.out.below hB1))
  have p0 : w1.cell? ⟨w.heap.size, 0, none⟩ = some (.string s) := bP1.cell 0
  have p1 : w1.cell? ⟨w.heap.size, 1, none⟩ = some (.slice A2 n2 c2) := bP1.cell 1
  clear hb1 hm
  go_wp2_with fail
  refine (l10Own_any (s := s) (bs := bs) HR1.out (by omega)).mono ?_
  rintro e w2 ⟨g, c, rfl, hown, hb2⟩
  have bR2 := bR1.step hb2
  have hB2 := hB1.trans (hb2.mono hB1.size)
  have hs2 := hb2.size
  have HLX : Hid (w2.ownsRow (w.heap.size + 2) 49 2 (.slice (some ⟨g, 0, none⟩) bs.length c) bs.length (bvals bs)) := Lib.hid (owns_mono2 hown (by omega))
  clear p0 p1 bP1 bR1 bR bP hown
  have r0 : w2.cell? ⟨w.heap.size + 1, 0, none⟩ = some (.string ⟨#[]⟩) := bR2.cell 0
  have r1 : w2.cell? ⟨w.heap.size + 1, 1, none⟩ = some (.slice none 0 0) := bR2.cell 1
  have f0 := bR2.frozen 0
  have f1 := bR2.frozen 1
  go_wp2_with fail
  rw [HF.out]
  refine bodyPost_ret (v := .tuple #[.agg #[.string s, .slice (some ⟨g, 0, none⟩) bs.length c], .int .i64 0]) (by simp [results, Try.results29, go_sem, r0, r1]) rfl ⟨.slice (some ⟨g, 0, none⟩) bs.length c, rfl, by repeat (first | exact owns_mono2 HLX.out (by omega) | refine owns_far ?_ (by simp; try omega) _), ?_⟩
  repeat (first | exact hB2 | refine Below.setCell ?_ (by simp; try omega) _)
set_option maxHeartbeats 3200000 in
theorem specRelO_all {s : ByteArray} {bs : List Block} {a z : Int} {fv : Value} {w : World} (hm : memOk s bs = true) (R : Rep w w.heap.size (blocks bs) fv) (hw : ∀ b ∈ bs, b.wf) (ha : (Lit.int .i64 a).wf = true) (hz : (Lit.int .i64 z).wf = true) (h0 : z ≠ 0) (hcap : ∀ A n c, fv = .slice A n c → n ≤ c) :
    Calls Try.prog 29 #[.agg #[.string s, fv], .int .i64 a, .int .i64 z] w fun e w' => MemO w (memRel ⟨s, bs⟩ a z) e w' := by
  have HM := Lib.hid (memF hm)
  have HR := Lib.hid R
  have hs4 := (memF hm).size
  have hl4 := (memF hm).len
  obtain ⟨A2, n2, c2, rfl⟩ := R.form
  clear R
  have HOK := Lib.hid hm
  obtain ⟨w0, hw0⟩ : ∃ W, W = ((w.alloc (.cells #[.string s, .slice A2 n2 c2] 29)).alloc (.cells #[.string ⟨#[]⟩, .slice none 0 0] 29)) := ⟨_, rfl⟩
  have bP : Blk w0 w.heap.size 29 #[.string s, .slice A2 n2 c2] := by rw [hw0]; exact (Blk.new w _ _).alloc _
  have bR : Blk w0 (w.heap.size + 1) 29 #[.string ⟨#[]⟩, .slice none 0 0] := by rw [hw0]; have := Blk.new (w.alloc (.cells #[.string s, .slice A2 n2 c2] 29)) 29 #[.string ⟨#[]⟩, .slice none 0 0]; simpa using this
  have hB : Below w.heap.size w w0 := by rw [hw0]; exact ((Below.refl _ _).alloc (Nat.le_refl _) _).alloc (by simp) _
  have hs0 : w0.heap.size = w.heap.size + 2 := by rw [hw0]; simp
  have HW := Lib.hid hw0
  clear hw0
  go_enter Try.func29, Try.ntmps29
  go_wp2_with fail
  rw [← HW.out]
  refine (specMemoryOk_any (by unfold maxLen; omega) hB.size (HR.out.below hB) hw).mono ?_
  rintro e w1 ⟨rfl, hb1⟩
  rw [hm]
  have bP1 := bP.step hb1
  have bR1 := bR.step hb1
  have hB1 := hB.trans (hb1.mono hB.size)
  have hs1 := hb1.size
  have HR1 := Lib.hid (Rep.more (B' := w1.heap.size) hB1.size _ _ (HR.out.below hB1))
  have p0 : w1.cell? ⟨w.heap.size, 0, none⟩ = some (.string s) := bP1.cell 0
  have p1 : w1.cell? ⟨w.heap.size, 1, none⟩ = some (.slice A2 n2 c2) := bP1.cell 1
  have hcc := hcap _ _ _ rfl
  clear hb1 hm hcap
  by_cases h8 : a < 8
  case pos =>
    have HF := Lib.hid (rel_no (bs := bs) (s := s) (a := a) (z := z) HOK.out h0 (fun h => by omega))
    have r0 : w1.cell? ⟨w.heap.size + 1, 0, none⟩ = some (.string ⟨#[]⟩) := bR1.cell 0
    have r1 : w1.cell? ⟨w.heap.size + 1, 1, none⟩ = some (.slice none 0 0) := bR1.cell 1
    have f0 := bR1.frozen 0
    have f1 := bR1.frozen 1
    go_wp2_with fail
    rw [HF.out]
    refine bodyPost_ret (v := .tuple #[.agg #[.string ⟨#[]⟩, .slice none 0 0], .int .i64 10]) (by simp [results, Try.results29, go_sem, r0, r1]) rfl ⟨.slice none 0 0, rfl, own_nil _ _, ?_⟩
    repeat (first | exact hB1 | refine Below.setCell ?_ (by simp; try omega) _)
  go_wp2_with fail
  by_cases hin : 0 ≤ a ∧ 0 ≤ z ∧ a ≤ (s.size : Int) ∧ z ≤ (s.size : Int) - a
  case neg =>
    refine (l10In_any (r := false) (by omega) ha hz (by simp only [Bool.false_eq_true, false_iff]; exact hin)).mono ?_
    rintro e w2 ⟨rfl, hb2⟩
    have HF := Lib.hid (rel_no (bs := bs) (s := s) HOK.out h0 (fun h => hin ⟨by omega, h.2.1, h.2.2.1, h.2.2.2.1⟩))
    have bR2 := bR1.step hb2
    have hB2 := hB1.trans (hb2.mono hB1.size)
    have hs2 := hb2.size
    clear hin
    have r0 : w2.cell? ⟨w.heap.size + 1, 0, none⟩ = some (.string ⟨#[]⟩) := bR2.cell 0
    have r1 : w2.cell? ⟨w.heap.size + 1, 1, none⟩ = some (.slice none 0 0) := bR2.cell 1
    have f0 := bR2.frozen 0
    have f1 := bR2.frozen 1
    go_wp2_with fail
    rw [HF.out]
    refine bodyPost_ret (v := .tuple #[.agg #[.string ⟨#[]⟩, .slice none 0 0], .int .i64 10]) (by simp [results, Try.results29, go_sem, r0, r1]) rfl ⟨.slice none 0 0, rfl, own_nil _ _, ?_⟩
    repeat (first | exact hB2 | refine Below.setCell ?_ (by simp; try omega) _)
  refine (l10In_any (r := true) (by omega) ha hz (by simp only [true_iff]; exact hin)).mono ?_
  rintro e w2 ⟨rfl, hb2⟩
  have bR2 := bR1.step hb2
  have bP2 := bP1.step hb2
  have hB2 := hB1.trans (hb2.mono hB1.size)
  have hs2 := hb2.size
  have HR2 := Lib.hid (Rep.more (B' := w2.heap.size) hb2.size _ _ (HR1.out.below hb2))
  clear p0 p1
  have p0 : w2.cell? ⟨w.heap.size, 0, none⟩ = some (.string s) := bP2.cell 0
  have p1 : w2.cell? ⟨w.heap.size, 1, none⟩ = some (.slice A2 n2 c2) := bP2.cell 1
  clear bP1 bR1 bR bP hb2
  go_wp2_with fail
  refine (l10Free_any HR2.out HM.out.fits (by omega)).mono ?_
  rintro e w3 ⟨rfl, hb3⟩
  have bR3 := bR2.step hb3
  have bP3 := bP2.step hb3
  have hB3 := hB2.trans (hb3.mono hB2.size)
  have hs3 := hb3.size
  have HR3 := Lib.hid (Rep.more (B' := w3.heap.size) hb3.size _ _ (HR2.out.below hb3))
  clear p0 p1 bP2 bR2 hb3
  cases hfr : freeAt bs a z
  case true =>
    have HF := Lib.hid (rel_no (bs := bs) (s := s) HOK.out h0 (fun h => by rw [h.2.2.2.2] at hfr; cases hfr))
    clear hfr
    have r0 : w3.cell? ⟨w.heap.size + 1, 0, none⟩ = some (.string ⟨#[]⟩) := bR3.cell 0
    have r1 : w3.cell? ⟨w.heap.size + 1, 1, none⟩ = some (.slice none 0 0) := bR3.cell 1
    have f0 := bR3.frozen 0
    have f1 := bR3.frozen 1
    go_wp2_with fail
    rw [HF.out]
    refine bodyPost_ret (v := .tuple #[.agg #[.string ⟨#[]⟩, .slice none 0 0], .int .i64 10]) (by simp [results, Try.results29, go_sem, r0, r1]) rfl ⟨.slice none 0 0, rfl, own_nil _ _, ?_⟩
    repeat (first | exact hB3 | refine Below.setCell ?_ (by simp; try omega) _)
  have HF := Lib.hid (rel_yes (bs := bs) (s := s) HOK.out h0 ⟨by omega, hin.2.1, hin.2.2.1, hin.2.2.2, hfr⟩)
  clear hfr
  have p0 : w3.cell? ⟨w.heap.size, 0, none⟩ = some (.string s) := bP3.cell 0
  have p1 : w3.cell? ⟨w.heap.size, 1, none⟩ = some (.slice A2 n2 c2) := bP3.cell 1
  have bRd := bR3.drew
  have bPd := bP3.drew
  have d0 : w3.drew.cell? ⟨w.heap.size, 0, none⟩ = some (.string s) := bPd.cell 0
  have d1 : w3.drew.cell? ⟨w.heap.size, 1, none⟩ = some (.slice A2 n2 c2) := bPd.cell 1
  have HCC := Lib.hid hcc
  go_wp2_with fail
  go_region_with (go_at_call 53; refine (give_own (fs := bs) (w := w3.drew) HR3.out.drew (fun A n c e => by cases e; exact HCC.out) HM.out.fits (by omega)).mono ?_; rintro e w4 ⟨u, rfl, hL, hb4⟩; obtain ⟨A4, n4, c4, rfl⟩ := owns_form hL; have HL4 := Lib.hid (owns_mono2 (b := w.heap.size + 2) hL (by have h2 : w3.drew.heap.size = w3.heap.size := rfl; omega)); have bR4 := bRd.step hb4; have bP4 := bPd.step hb4; have hB4 := hB3.drew.trans (hb4.mono (by have := hB3.size; simpa using this)); have hs4' := hb4.size; have e0 : w4.cell? ⟨w.heap.size, 0, none⟩ = some (.string s) := bP4.cell 0; have r0 : w4.cell? ⟨w.heap.size + 1, 0, none⟩ = some (.string ⟨#[]⟩) := bR4.cell 0; have r1 : w4.cell? ⟨w.heap.size + 1, 1, none⟩ = some (.slice none 0 0) := bR4.cell 1; have f0 := bR4.frozen 0; have f1 := bR4.frozen 1; clear hL)
  all_goals
    go_wp2_with fail
    rw [HF.out]
    have hs5 : w3.heap.size ≤ w4.heap.size := by simpa using hs4'
    refine bodyPost_ret (v := .tuple #[.agg #[.string s, .slice A4 n4 c4], .int .i64 0]) (by simp [results, Try.results29, go_sem, r0, r1]) rfl ⟨.slice A4 n4 c4, rfl, by repeat (first | exact owns_mono2 HL4.out (by omega) | refine owns_far ?_ (by simp; try omega) _), ?_⟩
    repeat (first | exact hB4 | refine Below.setCell ?_ (by simp; try omega) _)
theorem specRelO {s : ByteArray} {bs : List Block} {a z : Int} {fv : Value} {w : World} (hs : s.size ≤ 1048576) (R : Rep w w.heap.size (blocks bs) fv) (hw : ∀ b ∈ bs, b.wf) (ha : (Lit.int .i64 a).wf = true) (hz : (Lit.int .i64 z).wf = true) (hcap : ∀ A n c, fv = .slice A n c → n ≤ c) :
    Calls Try.prog 29 #[.agg #[.string s, fv], .int .i64 a, .int .i64 z] w fun e w' => MemO w (memRel ⟨s, bs⟩ a z) e w' := by
  cases hm : memOk s bs
  · exact specRelO_bad hs R hw hm
  · by_cases h0 : z = 0
    · exact specRelO_zero hm R hw ha hz h0
    · exact specRelO_all hm R hw ha hz h0 hcap
end Go.Proofs.Ytlppngpafjfjeaa

namespace Go.Proofs.Ytlppngpafjfjeaa
open Go.RowKit
set_option linter.unusedVariables false
set_option linter.unusedSimpArgs false
set_option linter.unnecessarySimpa false
set_option maxRecDepth 16000

def WrP (w : World) (s : ByteArray) (bs : List Block) (e : Ending) (w' : World) : Prop :=
  ∃ s' u, e = .returned (.tuple #[.agg #[.string s', u], .int .i64 0]) ∧ s'.size = s.size ∧ w'.ownsRow (w.heap.size + 2) 49 2 u bs.length (bvals bs) ∧ Below w.heap.size w w'
set_option maxHeartbeats 3200000 in
theorem l10Write_any {s x : ByteArray} {bs : List Block} {at_ : Int} {fv : Value} {w : World} (hm : memOk s bs = true) (R : Rep w w.heap.size (blocks bs) fv) (ha : 0 ≤ at_) (hz : at_ + x.size ≤ s.size) :
    Calls Try.prog 77 #[.agg #[.string s, fv], .int .i64 at_, .string x] w fun e w' => WrP w s bs e w' := by
  have HR := Lib.hid R
  have hs4 := (memF hm).size
  have hl4 := (memF hm).len
  obtain ⟨A2, n2, c2, rfl⟩ := R.form
  clear R
  obtain ⟨k, rfl⟩ : ∃ k : Nat, at_ = k := ⟨at_.toNat, by omega⟩
  obtain ⟨w0, hw0⟩ : ∃ W, W = ((w.alloc (.cells #[.string s, .slice A2 n2 c2] 29)).alloc (.cells #[.string ⟨#[]⟩, .slice none 0 0] 29)) := ⟨_, rfl⟩
  have bP : Blk w0 w.heap.size 29 #[.string s, .slice A2 n2 c2] := by rw [hw0]; exact (Blk.new w _ _).alloc _
  have bR : Blk w0 (w.heap.size + 1) 29 #[.string ⟨#[]⟩, .slice none 0 0] := by rw [hw0]; have := Blk.new (w.alloc (.cells #[.string s, .slice A2 n2 c2] 29)) 29 #[.string ⟨#[]⟩, .slice none 0 0]; simpa using this
  have hB : Below w.heap.size w w0 := by rw [hw0]; exact ((Below.refl _ _).alloc (Nat.le_refl _) _).alloc (by simp) _
  have hs0 : w0.heap.size = w.heap.size + 2 := by rw [hw0]; simp
  have HW := Lib.hid hw0
  clear hw0
  have HR0 := Lib.hid (Rep.more (B' := w0.heap.size) hB.size _ _ (HR.out.below hB))
  have p0 : w0.cell? ⟨w.heap.size, 0, none⟩ = some (.string s) := bP.cell 0
  have p1 : w0.cell? ⟨w.heap.size, 1, none⟩ = some (.slice A2 n2 c2) := bP.cell 1

  go_enter Try.func77, Try.ntmps77
  go_wp2_with fail
  rw [← HW.out]
  refine (l10In_any (r := true) (by omega) (WalkArith.wf_i64 (by omega)) (WalkArith.wf_i64 (by omega)) (by simp only [true_iff]; omega)).mono ?_
  rintro e w1 ⟨rfl, hb1⟩
  have bP1 := bP.step hb1
  have bR1 := bR.step hb1
  have hB1 := hB.trans (hb1.mono hB.size)
  have hs1 := hb1.size
  have HR1 := Lib.hid (Rep.more (B' := w1.heap.size) hb1.size _ _ (HR0.out.below hb1))
  clear p0 p1
  have p0 : w1.cell? ⟨w.heap.size, 0, none⟩ = some (.string s) := bP1.cell 0
  have p1 : w1.cell? ⟨w.heap.size, 1, none⟩ = some (.slice A2 n2 c2) := bP1.cell 1
  clear hb1
  go_wp2_with fail
  refine (l10Own_any (s := s) (bs := bs) HR1.out (by omega)).mono ?_
  rintro e w2 ⟨g, c, rfl, hown, hb2⟩
  have bP2 := bP1.step hb2
  have bR2 := bR1.step hb2
  have hB2 := hB1.trans (hb2.mono hB1.size)
  have hs2 := hb2.size
  have HO := Lib.hid (owns_mono2 (b := w.heap.size + 2) hown (by omega))
  clear p0 p1 hown
  obtain ⟨w3, hw3⟩ : ∃ W, W = w2.alloc (.cells #[.string s, .slice (some ⟨g, 0, none⟩) bs.length c] 29) := ⟨_, rfl⟩
  have bP3 : Blk w3 w.heap.size 29 #[.string s, .slice A2 n2 c2] := by rw [hw3]; exact bP2.alloc _
  have bR3 : Blk w3 (w.heap.size + 1) 29 #[.string ⟨#[]⟩, .slice none 0 0] := by rw [hw3]; exact bR2.alloc _
  have bO3 : Blk w3 w2.heap.size 29 #[.string s, .slice (some ⟨g, 0, none⟩) bs.length c] := by rw [hw3]; exact Blk.new _ _ _
  have hB3 : Below w.heap.size w w3 := by rw [hw3]; exact hB2.alloc hB2.size _
  have h23 : Below w2.heap.size w2 w3 := by rw [hw3]; exact (Below.refl _ _).alloc (Nat.le_refl _) _
  have hs3 : w3.heap.size = w2.heap.size + 1 := by rw [hw3]; simp
  have HW3 := Lib.hid hw3
  clear hw3
  go_wp2_with fail
  rw [← HW3.out]
  have d0 : w3.drew.cell? ⟨w.heap.size, 0, none⟩ = some (.string s) := bP3.drew.cell 0
  have e0 : w3.drew.cell? ⟨w2.heap.size, 0, none⟩ = some (.string s) := bO3.drew.cell 0
  have g0 := bO3.drew.frozen 0
  have hc1 : ¬ ((k : Int) < 0) := by omega
  have hk1 : (k : Int) ≤ s.size := by omega
  have hk2 : (k : Int) + x.size ≤ s.size := by omega
  clear bP bR bP1 bR1 bP2 bR2 hB hB1 hB2 HR HR0 HR1 HW HW3
  go_region
  obtain ⟨y, hy⟩ : ∃ y, y = s.extract 0 k ++ x ++ s.extract (k + x.size) s.size := ⟨_, rfl⟩
  have hys : y.size = s.size := by rw [hy]; simp only [ByteArray.size_append, ByteArray.size_extract]; omega
  rw [← hy]
  clear hy
  obtain ⟨w4, hw4⟩ : ∃ V, V = (w3.setCell ⟨w2.heap.size, 0, none⟩ (.string y)).drew := ⟨_, rfl⟩
  have bO4 : Blk w4 w2.heap.size 29 #[.string y, .slice (some ⟨g, 0, none⟩) bs.length c] := by
    rw [hw4]
    have := (bO3.set_ 0 (.string y)).drew
    simpa using this
  have bR4 : Blk w4 (w.heap.size + 1) 29 #[.string ⟨#[]⟩, .slice none 0 0] := by
    rw [hw4]
    exact (bR3.far (p := ⟨w2.heap.size, 0, none⟩) (by show w.heap.size + 1 ≠ w2.heap.size; omega) _).drew
  have hB4 : Below w.heap.size w w4 := by rw [hw4]; exact (hB3.setCell (p := ⟨w2.heap.size, 0, none⟩) (by show w.heap.size ≤ w2.heap.size; omega) _).drew
  have HO4 := Lib.hid (owns_step HO.out (show Below w2.heap.size w2 w4 by rw [hw4]; exact (h23.setCell (p := ⟨w2.heap.size, 0, none⟩) (Nat.le_refl _) _).drew))
  have hs4' : w3.heap.size ≤ w4.heap.size := by rw [hw4]; simp
  rw [← hw4]
  clear hw4 d0 e0 g0
  have o0 : w4.cell? ⟨w2.heap.size, 0, none⟩ = some (.string y) := bO4.cell 0
  have o1 : w4.cell? ⟨w2.heap.size, 1, none⟩ = some (.slice (some ⟨g, 0, none⟩) bs.length c) := bO4.cell 1
  have r0 : w4.cell? ⟨w.heap.size + 1, 0, none⟩ = some (.string ⟨#[]⟩) := bR4.cell 0
  have r1 : w4.cell? ⟨w.heap.size + 1, 1, none⟩ = some (.slice none 0 0) := bR4.cell 1
  have f0 := bR4.frozen 0
  have f1 := bR4.frozen 1
  go_wp2_with fail
  refine bodyPost_ret (v := .tuple #[.agg #[.string y, .slice (some ⟨g, 0, none⟩) bs.length c], .int .i64 0]) (by simp [results, Try.results77, go_sem, r0, r1]) rfl ⟨y, .slice (some ⟨g, 0, none⟩) bs.length c, rfl, hys, by repeat (first | exact HO4.out | refine owns_far ?_ (by simp; try omega) _), ?_⟩
  repeat (first | exact hB4 | refine Below.setCell ?_ (by simp; try omega) _)
end Go.Proofs.Ytlppngpafjfjeaa

namespace Go.Proofs.Ytlppngpafjfjeaa
open Go.RowKit
set_option linter.unusedVariables false
set_option linter.unusedSimpArgs false
set_option linter.unnecessarySimpa false
set_option maxRecDepth 16000

def MemN (w : World) (r : Memory × Int) (e : Ending) (w' : World) : Prop :=
  ∃ u, e = .returned (.tuple #[.agg #[.string r.1.bytes, u], .int .i64 r.2]) ∧ w'.ownsRow (w.heap.size + 1) 49 2 u r.1.free.length (bvals r.1.free) ∧ Below w.heap.size w w'
theorem own_one {W : World} {g base : Nat} {a z : Int} (h : Blk W g 49 #[.int .i64 a, .int .i64 z]) (hb : base ≤ g) : W.ownsRow base 49 2 (.slice (some ⟨g, 0, none⟩) 1 1) 1 (bvals [⟨a, z⟩]) := by
  refine ⟨rfl, .inr ⟨g, 1, _, rfl, hb, h, ?_⟩⟩
  simp [bvals, blkC, maxLen]
set_option maxHeartbeats 3200000 in
theorem specNewO {m : Nat} (hm : m ≤ 4096) (w : World) : Calls Try.prog 21 #[.int .i64 m] w fun e w' => MemN w (memNew m) e w' := by
  have HF := Lib.hid (memNew_yes hm)
  have hin : inB (m : Int) 0 4096 = true := inB_yes (by omega) (by omega)
  rw [HF.out]
  obtain ⟨i0, hi, hz0, hz1, hz2⟩ := info_parts byte_info
  go_enter Try.func21, Try.ntmps21
  go_wp2_with fail
  obtain ⟨w0, hw0⟩ : ∃ W, W = w.alloc (.cells #[.string ⟨#[]⟩, .slice none 0 0] 29) := ⟨_, rfl⟩
  rw [← hw0]
  have bR : Blk w0 w.heap.size 29 #[.string ⟨#[]⟩, .slice none 0 0] := by rw [hw0]; exact Blk.new w _ _
  have hB : Below w.heap.size w w0 := by rw [hw0]; exact (Below.refl _ _).alloc (Nat.le_refl _) _
  have hs : w.heap.size + 1 ≤ w0.heap.size := by rw [hw0]; simp
  clear hw0
  refine (l00In_any _ _ _ _).mono ?_
  rintro e w1 ⟨rfl, rfl⟩
  have hmk := run_make_rowN (P := Try.prog) 45 5 i0 _ Try.underlying45 hi hz0 .i64 .i64 m m (Nat.le_refl _) (by rw [hz2]; omega) (by omega) w0
  rw [hz1, Nat.mul_one, show (Value.int .u8 0).cells = #[Value.int .u8 0] from rfl] at hmk
  have hml : (madeCells #[Value.int .u8 0] m).toList = List.replicate m (.int .u8 0) := toList_madeCells_one _ _
  have hx := RowX.zeros (B := w.heap.size) (w := w0) (cur := madeCells #[Value.int .u8 0] m) (n := m) (cap := m) (by omega) (Nat.le_refl _) (by simp only [maxLen]; omega) (by simp [size_madeCells]) (by rw [hml, List.take_replicate, Nat.min_self])
  have cv := hx.str
  by_cases h8 : 8 < m
  · have h8' : (8 : Int) < (m : Int) := by omega
    have HE := Lib.hid (freeN_yes h8)
    obtain ⟨W3, hW3⟩ : ∃ W, W = (((w0.alloc (.cells (madeCells #[Value.int .u8 0] m) 5)).alloc (.cells #[.string (zerosB m), .slice (some ⟨w0.heap.size + 1 + 1, 0, none⟩) 1 1] 29)).alloc (.cells #[.int .i64 8, .int .i64 ((m : Int) - 8)] 49)) := ⟨_, rfl⟩
    have bR3 : Blk W3 w.heap.size 29 #[.string ⟨#[]⟩, .slice none 0 0] := by rw [hW3]; exact ((bR.alloc _).alloc _).alloc _
    have bF : Blk W3 (w0.heap.size + 1 + 1) 49 #[.int .i64 8, .int .i64 ((m : Int) - 8)] := by
      rw [hW3]
      have := Blk.new ((w0.alloc (.cells (madeCells #[Value.int .u8 0] m) 5)).alloc (.cells #[.string (zerosB m), .slice (some ⟨w0.heap.size + 1 + 1, 0, none⟩) 1 1] 29)) 49 #[.int .i64 8, .int .i64 ((m : Int) - 8)]
      simpa using this
    have hB3 : Below w.heap.size w W3 := by rw [hW3]; exact ((hB.alloc hB.size _).alloc (by simp; omega) _).alloc (by simp; omega) _
    have hL : Hid (W3.ownsRow (w.heap.size + 1) 49 2 (.slice (some ⟨w0.heap.size + 1 + 1, 0, none⟩) 1 1) 1 (bvals [⟨8, (m : Int) - 8⟩])) := by
      show World.ownsRow _ _ _ _ _ _ _
      exact own_one bF (by omega)
    have r0 := bR3.cell 0
    have r1 := bR3.cell 1
    have f0 := bR3.frozen 0
    have f1 := bR3.frozen 1
    have HW := Lib.hid hW3
    rw [hW3] at r0 r1 f0 f1
    clear hx hml hi hz0 hz1 hz2 hW3
    go_wp2_with fail
    rw [← HW.out]
    have r0 := bR3.cell 0
    have r1 := bR3.cell 1
    refine bodyPost_ret (v := .tuple #[.agg #[.string (zerosB m), .slice (some ⟨w0.heap.size + 1 + 1, 0, none⟩) 1 1], .int .i64 0]) (by simp [results, Try.results21, go_sem, r0, r1]) rfl ⟨.slice (some ⟨w0.heap.size + 1 + 1, 0, none⟩) 1 1, rfl, by rw [HE.out]; repeat (first | exact hL.out | refine owns_far ?_ (by simp; try omega) _), ?_⟩
    repeat (first | exact hB3 | refine Below.setCell ?_ (by simp; try omega) _)
  · have h8' : ¬ (8 : Int) < (m : Int) := by omega
    have HE := Lib.hid (freeN_no h8)
    obtain ⟨W3, hW3⟩ : ∃ W, W = ((w0.alloc (.cells (madeCells #[Value.int .u8 0] m) 5)).alloc (.cells #[.string (zerosB m), .slice none 0 0] 29)) := ⟨_, rfl⟩
    have bR3 : Blk W3 w.heap.size 29 #[.string ⟨#[]⟩, .slice none 0 0] := by rw [hW3]; exact (bR.alloc _).alloc _
    have hB3 : Below w.heap.size w W3 := by rw [hW3]; exact (hB.alloc hB.size _).alloc (by simp; omega) _
    have hs3 : w.heap.size + 1 ≤ W3.heap.size := by rw [hW3]; simp; omega
    have r0 := bR3.cell 0
    have r1 := bR3.cell 1
    have f0 := bR3.frozen 0
    have f1 := bR3.frozen 1
    have HW := Lib.hid hW3
    rw [hW3] at r0 r1 f0 f1
    clear hx hml hi hz0 hz1 hz2 hW3
    go_wp2_with fail
    rw [← HW.out]
    have r0 := bR3.cell 0
    have r1 := bR3.cell 1
    refine bodyPost_ret (v := .tuple #[.agg #[.string (zerosB m), .slice none 0 0], .int .i64 0]) (by simp [results, Try.results21, go_sem, r0, r1]) rfl ⟨.slice none 0 0, rfl, by rw [HE.out]; exact own_nil _ _, ?_⟩
    repeat (first | exact hB3 | refine Below.setCell ?_ (by simp; try omega) _)
end Go.Proofs.Ytlppngpafjfjeaa

namespace Go.Proofs.Ytlppngpafjfjeaa
open Go.RowKit Go.ChangeShapes Go.WideShapes Go.ChangeAt
set_option linter.unusedVariables false
set_option linter.unusedSimpArgs false
set_option linter.unnecessarySimpa false
set_option maxRecDepth 16000

/-- n bytes that are read, in blocks below B -/
def BytesAt (w : World) (B : Nat) (A : Option Addr) (n : Nat) : Prop := 0 < n → ∃ g off, A = some ⟨g, off, none⟩ ∧ g < B ∧ ∀ j, j < n → ∃ b : Nat, b ≤ 255 ∧ w.cell? ⟨g, off + j, none⟩ = some (.int .u8 b)
theorem BytesAt.below {w w' : World} {B C : Nat} {A : Option Addr} {n : Nat} (h : BytesAt w B A n) (hb : Below C w w') (hC : B ≤ C) : BytesAt w' B A n := fun hn => by
  obtain ⟨g, off, e, hg, hc⟩ := h hn
  exact ⟨g, off, e, hg, fun j hj => by
    obtain ⟨b, hb1, hb2⟩ := hc j hj
    exact ⟨b, hb1, (hb.cell (p := ⟨g, off + j, none⟩) (by show g < C; omega)).trans hb2⟩⟩
theorem BytesAt.more {w : World} {B C : Nat} {A : Option Addr} {n : Nat} (h : BytesAt w B A n) (hC : B ≤ C) : BytesAt w C A n := fun hn => by
  obtain ⟨g, off, e, hg, hc⟩ := h hn
  exact ⟨g, off, e, by omega, hc⟩
def ArgB (w : World) (v : Value) : Prop := ∃ A n c, v = .slice A n c ∧ n ≤ maxLen ∧ BytesAt w w.heap.size A n
theorem argB {H : Type} {enc : TypeId × Value → H} {P : Program} {w : World} {base : Nat} {spare : Nat → Bool} {held : Bool} {r : Reach} {t e : TypeId} {v : Value} {d : DataW H} {ps : List MemPlace} {b0 : Nat}
    (ht : P.underlying t = some (.slice e)) (he : P.underlying e = some (.int .u8)) (hc : P.cellsOf e = 1)
    (hv : Value.okWide P w r b0 t v) (h : DataW.Trod enc P w base spare held t v d ps) : ArgB w v := by
  obtain ⟨a, len, cap, rfl⟩ := okWide_slice ht hv
  obtain ⟨fuel, hf⟩ := h
  rcases open_ints ht he hc hf with ⟨hcs, _⟩ | ⟨x, l, c, zs, hcs, _, hl, hm, hz, _, hcell, hwz⟩
  · simp [Value.cells] at hcs
    obtain ⟨rfl, rfl, rfl⟩ := hcs
    exact ⟨none, 0, 0, rfl, by simp, fun h => absurd h (by omega)⟩
  · simp [Value.cells] at hcs
    obtain ⟨rfl, rfl, rfl⟩ := hcs
    have hlz : len ≤ zs.length := by rw [hz]; split <;> omega
    refine ⟨some x, len, cap, rfl, by omega, fun hn => ?_⟩
    obtain ⟨g, off, spot⟩ := x
    have h0 := hcell 0 (by omega)
    have hspot : spot = none := by simpa [Addr.add] using World.cell?_spot h0
    subst hspot
    refine ⟨g, off, rfl, ?_, fun j hj => ?_⟩
    · have := World.block_lt_of_cell? w _ h0
      simpa [Addr.add] using this
    · have hjz : j < zs.length := by omega
      have hw := hwz (zs.getD j 0) (by rw [List.getD_eq_getElem?_getD, List.getElem?_eq_getElem hjz]; simp)
      have hb := wfu8 hw
      obtain ⟨b, hbb⟩ : ∃ b : Nat, zs.getD j 0 = (b : Int) := ⟨(zs.getD j 0).toNat, by omega⟩
      rw [hbb] at hb
      have hc2 := hcell j hjz
      rw [hbb] at hc2
      have e : (⟨g, off, none⟩ : Addr).add j = ⟨g, off + j, none⟩ := by simp [Addr.add]
      rw [e] at hc2
      exact ⟨b, by omega, hc2⟩
theorem b10Long_any {A A' : Option Addr} {n n' c c' : Nat} {w : World} : Calls Try.prog 31 #[.slice A n c, .slice A' n' c'] w fun e w' => e = .returned (.bool (decide (1048576 < n) || decide (1048576 < n'))) ∧ w = w' := by
  by_cases h : 1048576 < n
  · have hF : Hid ((decide (1048576 < n) || decide (1048576 < n')) = true) := by show _ = _; simp [h]
    have h2 : (1048576 : Int) < n := by omega
    have hd : decide ((1048576 : Int) < n) = true := decide_eq_true h2
    clear h
    go_enter Try.func31, Try.ntmps31
    go_wp2_with fail
    go_ret
    exact ⟨ret_bool hF.out.symm, rfl⟩
  by_cases h' : 1048576 < n'
  · have hF : Hid ((decide (1048576 < n) || decide (1048576 < n')) = true) := by show _ = _; simp [h']
    have hd : decide ((1048576 : Int) < n) = false := decide_eq_false (by omega)
    have hd' : decide ((1048576 : Int) < n') = true := decide_eq_true (by omega)
    clear h h'
    go_enter Try.func31, Try.ntmps31
    go_wp2_with fail
    go_ret
    exact ⟨ret_bool hF.out.symm, rfl⟩
  · have hF : Hid ((decide (1048576 < n) || decide (1048576 < n')) = false) := by show _ = _; simp [h, h']
    have hd : decide ((1048576 : Int) < n) = false := decide_eq_false (by omega)
    have hd' : decide ((1048576 : Int) < n') = false := decide_eq_false (by omega)
    clear h h'
    go_enter Try.func31, Try.ntmps31
    go_wp2_with fail
    go_ret
    exact ⟨ret_bool hF.out.symm, rfl⟩
def AtQ (n : Int) (w : World) (e : Ending) (w' : World) : Prop := ∃ x : Nat, e = .returned (.int .i64 x) ∧ (x : Int) < max n 1 ∧ w = w'
theorem b10At_any {A : Option Addr} {m c i : Nat} {n : Int} {w : World} (h : BytesAt w w.heap.size A m) (hm : m ≤ 1048576) (hi : i ≤ 1000) (hn : n ≤ 1000) : Calls Try.prog 32 #[.slice A m c, .int .i64 i, .int .i64 n] w fun e w' => AtQ n w e w' := by
  by_cases h1 : n ≤ 1
  · have hd : decide (n ≤ 1) = true := decide_eq_true h1
    go_enter Try.func32, Try.ntmps32
    go_wp2_with fail
    go_ret
    exact ⟨0, rfl, by omega, rfl⟩
  obtain ⟨k, rfl⟩ : ∃ k : Nat, n = (k : Int) := ⟨n.toNat, by omega⟩
  have hd : decide ((k : Int) ≤ 1) = false := decide_eq_false h1
  have hk0 : (k : Int) ≠ 0 := by omega
  have hk1 : ((k : Int) == 0) = false := by simpa using hk0
  have hkk : 1 < k := by omega
  have hk3 : ((k : Int) == -1) = false := by simp
  by_cases hlt : i < m
  · obtain ⟨g, off, rfl, hg, hc⟩ := h (by omega)
    obtain ⟨b, hb, c0⟩ := hc i hlt
    have hlt2 : (i : Int) < (m : Int) := by omega
    have hr : Hid (∃ x : Nat, (b : Int) % (k : Int) = (x : Int) ∧ x < k) := ⟨b % k, (Int.natCast_emod b k).symm, Nat.mod_lt _ (by omega)⟩
    clear h hc hlt h1
    go_enter Try.func32, Try.ntmps32
    go_wp2_with fail
    go_ret
    obtain ⟨x, hx, hxk⟩ := hr.out
    exact ⟨x, ret_int (by simp [hx]), by omega, rfl⟩
  · have hlt2 : decide ((i : Int) < (m : Int)) = false := decide_eq_false (by omega)
    have hlt3 : decide (i < m) = false := decide_eq_false hlt
    have hr : Hid (∃ x : Nat, ((i : Int) * 37 + 11) % (k : Int) = (x : Int) ∧ x < k) := ⟨(i * 37 + 11) % k, by have := (Int.natCast_emod (i * 37 + 11) k).symm; push_cast at this; push_cast; exact this, Nat.mod_lt _ (by omega)⟩
    have w1 : IntKind.i64.wrap ((i : Int) * 37) = (i : Int) * 37 := IntWalk.i64_in _ (by omega)
    have w2 : IntKind.i64.wrap ((i : Int) * 37 + 11) = (i : Int) * 37 + 11 := IntWalk.i64_in _ (by omega)
    clear h h1
    go_enter Try.func32, Try.ntmps32
    go_wp2_with fail
    go_ret
    obtain ⟨x, hx, hxk⟩ := hr.out
    exact ⟨x, ret_int (by simp [hx]), by omega, rfl⟩
theorem b10At_i {A : Option Addr} {m c : Nat} {i n : Int} {w : World} (h : BytesAt w w.heap.size A m) (hm : m ≤ 1048576) (h0 : 0 ≤ i) (hi : i ≤ 1000) (hn : n ≤ 1000) : Calls Try.prog 32 #[.slice A m c, .int .i64 i, .int .i64 n] w fun e w' => AtQ n w e w' := by
  obtain ⟨j, rfl⟩ : ∃ j : Nat, i = (j : Int) := ⟨i.toNat, by omega⟩
  exact b10At_any h hm (by omega) hn
end Go.Proofs.Ytlppngpafjfjeaa

namespace Go.Proofs.Ytlppngpafjfjeaa
open Go.RowKit
set_option linter.unusedVariables false
set_option linter.unusedSimpArgs false
set_option linter.unnecessarySimpa false
set_option maxRecDepth 16000

/-- the source of draws in block q, K draws at most taken -/
def Src (W : World) (q K : Nat) : Prop := ∃ (A : Option Addr) (n c a : Nat) (s : Int), Blk W q 89 #[.slice A n c, .int .i64 a, .int .u64 s] ∧ n ≤ 1048576 ∧ a ≤ K ∧ 0 ≤ s ∧ s < 18446744073709551616 ∧ BytesAt W q A n
theorem Src.more {W : World} {q K L : Nat} (h : Src W q K) (hl : K ≤ L) : Src W q L := by
  obtain ⟨A, n, c, a, s, h1, h2, h3, h4⟩ := h
  exact ⟨A, n, c, a, s, h1, h2, by omega, h4⟩
theorem Src.lt {W : World} {q K : Nat} (h : Src W q K) : q < W.heap.size := by
  obtain ⟨A, n, c, a, s, h1, _⟩ := h
  exact h1.lt
theorem Src.step {W W' : World} {q K : Nat} (h : Src W q K) (hb : Below W.heap.size W W') : Src W' q K := by
  obtain ⟨A, n, c, a, s, h1, h2, h3, h4, h5, h6⟩ := h
  exact ⟨A, n, c, a, s, h1.step hb, h2, h3, h4, h5, h6.below hb (by have := h1.lt; omega)⟩
theorem wrap_u64 (x : Int) : 0 ≤ IntKind.u64.wrap x ∧ IntKind.u64.wrap x < 18446744073709551616 := by
  have h : IntKind.u64.wrap x = x % 18446744073709551616 := by simp [IntKind.wrap, IntKind.signed, IntKind.bits]
  rw [h]
  exact ⟨Int.emod_nonneg _ (by decide), Int.emod_lt_of_pos _ (by decide)⟩
theorem and255u (x : Int) (h0 : 0 ≤ x) (h1 : x < 18446744073709551616) : ∃ b : Nat, b ≤ 255 ∧ wrap64 (bits .and .u64 x 255) = (b : Int) := by
  obtain ⟨a, rfl⟩ := Int.eq_ofNat_of_zero_le h0
  have e := bits_and_u64_nat a 255 (by omega) (by decide)
  have hle : a &&& 255 ≤ 255 := Nat.and_le_right
  refine ⟨a &&& 255, hle, ?_⟩
  rw [show (255 : Int) = ((255 : Nat) : Int) from rfl, e]
  exact IntWalk.wrap64_in _ ⟨by omega, by omega⟩
theorem shr40 (x : Int) : 0 ≤ IntKind.u64.wrap x / 1099511627776 ∧ IntKind.u64.wrap x / 1099511627776 < 18446744073709551616 := by
  have h := wrap_u64 x
  omega
def NextQ (w : World) (q K : Nat) (e : Ending) (w' : World) : Prop := ∃ b : Nat, b ≤ 255 ∧ e = .returned (.int .i64 b) ∧ Src w' q (K + 1) ∧ Keep q (q + 1) w w'
theorem next_end {w : World} {q K n c a : Nat} {A : Option Addr} {s x : Int} {m1 m2 : Nat} (h : Blk w q 89 #[.slice A n c, .int .i64 a, .int .u64 s]) (hn : n ≤ 1048576) (ha : a ≤ K) (hb : BytesAt w q A n) :
    Src ((((w.drewN m1).setCell ⟨q, 1, none⟩ (.int .i64 ((a : Int) + 1))).setCell ⟨q, 2, none⟩ (.int .u64 (IntKind.u64.wrap x))).drewN m2) q (K + 1) ∧ Keep q (q + 1) w ((((w.drewN m1).setCell ⟨q, 1, none⟩ (.int .i64 ((a : Int) + 1))).setCell ⟨q, 2, none⟩ (.int .u64 (IntKind.u64.wrap x))).drewN m2) := by
  have k0 : Keep q (q + 1) w (w.drewN m1) := Keep.of_below (below_drewN (Below.refl _ _) _)
  have k1 := (k0.setCell (p := ⟨q, 1, none⟩) (Nat.le_refl _) (Nat.lt_succ_self _) (.int .i64 ((a : Int) + 1))).setCell (p := ⟨q, 2, none⟩) (Nat.le_refl _) (Nat.lt_succ_self _) (.int .u64 (IntKind.u64.wrap x))
  have k2 : Keep q (q + 1) _ ((((w.drewN m1).setCell ⟨q, 1, none⟩ (.int .i64 ((a : Int) + 1))).setCell ⟨q, 2, none⟩ (.int .u64 (IntKind.u64.wrap x))).drewN m2) := Keep.of_below (below_drewN (Below.refl _ _) m2)
  have k3 := k1.trans k2
  refine ⟨⟨A, n, c, a + 1, IntKind.u64.wrap x, ?_, hn, by omega, (wrap_u64 x).1, (wrap_u64 x).2, hb.below (k3.below (Nat.le_of_lt h.lt)) (Nat.le_refl _)⟩, k3⟩
  have b := (((h.step (below_drewN (Below.refl _ _) m1)).set_ 1 (.int .i64 ((a : Int) + 1))).set_ 2 (.int .u64 (IntKind.u64.wrap x))).step (below_drewN (Below.refl _ _) m2)
  simpa using b
set_option maxHeartbeats 3200000 in
theorem next_any {q K : Nat} {w : World} (h : Src w q K) (hK : K ≤ 4000000000) : Calls Try.prog 73 #[.pointer (some ⟨q, 0, none⟩)] w fun e w' => NextQ w q K e w' := by
  obtain ⟨A, n, c, a, s, h1, h2, h3, h4, h5, h6⟩ := h
  have c0 : w.cell? ⟨q, 0, none⟩ = some (.slice A n c) := h1.cell 0
  have c1 : w.cell? ⟨q, 1, none⟩ = some (.int .i64 a) := h1.cell 1
  have c2 : w.cell? ⟨q, 2, none⟩ = some (.int .u64 s) := h1.cell 2
  have g1 := h1.frozen 1
  have g2 := h1.frozen 2
  have x1 : IntKind.i64.wrap ((a : Int) + 1) = (a : Int) + 1 := IntWalk.i64_in _ (by omega)
  have H1 := Lib.hid h1
  have H6 := Lib.hid h6
  clear h1 h6
  go_enter Try.func73, Try.ntmps73
  go_wp2_with fail
  go_quiet (fail)
  have hd : decide ((a : Int) < (n : Int)) = decide (a < n) := by by_cases h : a < n <;> simp [h]
  by_cases hlt : a < n
  case pos =>
    obtain ⟨g, off, rfl, hg, hb⟩ := H6.out (by omega)
    obtain ⟨b, hb1, hb2⟩ := hb a hlt
    have hlt2 : (a : Int) < (n : Int) := by omega
    clear hb hd
    go_wp2_with fail
    go_quiet (fail)
    go_wp2_with fail
    go_quiet (fail)
    have hd3 : decide ((a : Int) + 1 ≤ (n : Int)) = true := decide_eq_true (by omega)
    go_wp2_with fail
    go_ret
    obtain ⟨e1, e2⟩ := next_end H1.out h2 h3 H6.out
    exact ⟨b, hb1, rfl, e1, e2⟩
  case neg =>
    have hlt2 : decide ((a : Int) < (n : Int)) = false := decide_eq_false (by omega)
    clear hd
    go_wp2_with fail
    go_quiet (fail)
    have hd3 : decide ((a : Int) + 1 ≤ (n : Int)) = false := decide_eq_false (by omega)
    have HX := Lib.hid (fun x => and255u _ (shr40 x).1 (shr40 x).2)
    go_wp2_with fail
    go_ret
    obtain ⟨b, hb1, hb2⟩ := HX.out (IntKind.u64.wrap (IntKind.u64.wrap (s * 6364136223846793005)) + 1442695040888963407)
    obtain ⟨e1, e2⟩ := next_end H1.out h2 h3 H6.out
    exact ⟨b, hb1, ret_int hb2, e1, e2⟩
def PickQ (n : Int) (w : World) (q K : Nat) (e : Ending) (w' : World) : Prop := ∃ b : Nat, (b : Int) < max n 1 ∧ e = .returned (.int .i64 b) ∧ Src w' q (K + 2) ∧ Keep q (q + 1) w w'
set_option maxHeartbeats 1600000 in
theorem pick_any {q K : Nat} {n : Int} {w : World} (h : Src w q K) (hK : K ≤ 3000000000) (hn : n ≤ 1000000) : Calls Try.prog 58 #[.pointer (some ⟨q, 0, none⟩), .int .i64 n] w fun e w' => PickQ n w q K e w' := by
  by_cases h1 : n ≤ 1
  · have hd : decide (n ≤ 1) = true := decide_eq_true h1
    go_enter Try.func58, Try.ntmps58
    go_wp2_with fail
    go_ret
    exact ⟨0, by omega, rfl, h.more (by omega), Keep.refl _ _ _⟩
  obtain ⟨k, rfl⟩ : ∃ k : Nat, n = (k : Int) := ⟨n.toNat, by omega⟩
  have hd : decide ((k : Int) ≤ 1) = false := decide_eq_false h1
  have hk0 : (k : Int) ≠ 0 := by omega
  have hk1 : ((k : Int) == 0) = false := by simpa using hk0
  have hk3 : ((k : Int) == -1) = false := by simp
  have hkk : 1 < k := by omega
  have HS := Lib.hid h
  have HR : Hid (∀ m : Nat, ∃ x : Nat, (m : Int) % (k : Int) = (x : Int) ∧ (x : Int) < max (k : Int) 1) := fun m => ⟨m % k, (Int.natCast_emod m k).symm, by have := Nat.mod_lt m (show 0 < k by omega); omega⟩
  clear h h1
  go_enter Try.func58, Try.ntmps58
  go_wp2_with fail
  refine (next_any HS.out (by omega)).mono ?_
  rintro e w1 ⟨b, hb, rfl, S1, k1⟩
  have HS1 := Lib.hid S1
  clear S1
  by_cases h2 : 200 < k
  case neg =>
    have hd2 : decide ((200 : Int) < (k : Int)) = false := decide_eq_false (by omega)
    go_wp2_with fail
    go_ret
    obtain ⟨x, hx, hxk⟩ := HR.out b
    exact ⟨x, hxk, ret_int hx, HS1.out.more (by omega), k1⟩
  have hd2 : decide ((200 : Int) < (k : Int)) = true := decide_eq_true (by omega)
  have x1 : IntKind.i64.wrap ((b : Int) * 256) = (b : Int) * 256 := IntWalk.i64_in _ (by omega)
  go_wp2_with fail
  refine (next_any HS1.out (by omega)).mono ?_
  rintro e w2 ⟨d, hd3, rfl, S2, k2⟩
  have HS2 := Lib.hid S2
  have x2 : IntKind.i64.wrap ((b : Int) * 256 + (d : Int)) = ((b * 256 + d : Nat) : Int) := (IntWalk.i64_in _ (by omega)).trans (by omega)
  clear S2
  go_wp2_with fail
  go_ret
  obtain ⟨x, hx, hxk⟩ := HR.out (b * 256 + d)
  exact ⟨x, hxk, ret_int hx, HS2.out, k1.trans k2⟩
theorem one_any {q K : Nat} {n : Int} {w : World} (h : Src w q K) (hK : K ≤ 3000000000) (hn : n ≤ 1000000) : Calls Try.prog 59 #[.pointer (some ⟨q, 0, none⟩), .int .i64 n] w fun e w' => ∃ b : Bool, e = .returned (.bool b) ∧ Src w' q (K + 2) ∧ Keep q (q + 1) w w' := by
  go_enter Try.func59, Try.ntmps59
  go_wp2_with fail
  refine (pick_any h hK hn).mono ?_
  rintro e w1 ⟨b, hb, rfl, S1, k1⟩
  have HS1 := Lib.hid S1
  go_wp2_with fail
  go_ret
  exact ⟨_, rfl, HS1.out, k1⟩
/-- one of a row of numbers: whatever all of them are, it is -/
theorem among_any {q K g c : Nat} {xs : List Int} {w : World} (h : Src w q K) (hK : K ≤ 3000000000) (h0 : 0 < xs.length) (hl : xs.length ≤ 1000) (hg : g ≠ q) (hx : ∀ (j : Nat) (x : Int), xs[j]? = some x → w.cell? ⟨g, j, none⟩ = some (.int .i64 x)) :
    Calls Try.prog 60 #[.pointer (some ⟨q, 0, none⟩), .slice (some ⟨g, 0, none⟩) xs.length c] w fun e w' => ∃ x, x ∈ xs ∧ e = .returned (.int .i64 x) ∧ Src w' q (K + 2) ∧ Keep q (q + 1) w w' := by
  obtain ⟨n, hn⟩ : ∃ n, n = xs.length := ⟨_, rfl⟩
  have HN := Lib.hid hn
  have HX := Lib.hid hx
  rw [← hn] at h0 hl ⊢
  clear hn hx
  go_enter Try.func60, Try.ntmps60
  go_wp2_with fail
  refine (pick_any h hK (by omega)).mono ?_
  rintro e w1 ⟨b, hb, rfl, S1, k1⟩
  have HS1 := Lib.hid S1
  have hbn : b < n := by omega
  obtain ⟨x, hx, hm⟩ := at_lt HN.out hbn
  have c0 : w1.cell? ⟨g, b, none⟩ = some (.int .i64 x) := by
    have := HX.out b x hx
    exact (k1.cell (p := ⟨g, b, none⟩) (World.block_lt_of_cell? w _ this) (by show g < q ∨ q + 1 ≤ g; omega)).trans this
  clear hx S1 hb
  go_wp2_with fail
  go_ret
  exact ⟨x, hm, rfl, HS1.out, k1⟩
theorem from_any {A : Option Addr} {n c : Nat} {w : World} (hn : n ≤ 1048576) (h : BytesAt w w.heap.size A n) : Calls Try.prog 57 #[.slice A n c] w fun e w' => e = .returned (.pointer (some ⟨w.heap.size, 0, none⟩)) ∧ Src w' w.heap.size 0 ∧ Below w.heap.size w w' := by
  go_enter Try.func57, Try.ntmps57
  go_wp2_with fail
  go_ret
  exact ⟨rfl, ⟨A, n, c, 0, 0, Blk.new w _ _, hn, Nat.le_refl _, by decide, by decide, h.below ((Below.refl _ _).alloc (Nat.le_refl _) _) (Nat.le_refl _)⟩, (Below.refl _ _).alloc (Nat.le_refl _) _⟩
end Go.Proofs.Ytlppngpafjfjeaa

namespace Go.Proofs.Ytlppngpafjfjeaa
open Go.RowKit
set_option linter.unusedVariables false
set_option linter.unusedSimpArgs false
set_option linter.unnecessarySimpa false
set_option maxRecDepth 16000

def u8V (xs : List Int) : List Value := xs.map (Value.int .u8)
theorem u8V_append (xs ys : List Int) : u8V (xs ++ ys) = u8V xs ++ u8V ys := by simp [u8V]
theorem one_u8 (xs : List Int) : ∀ u ∈ u8V xs, u.oneCell' = true := by
  intro u hu
  obtain ⟨x, _, rfl⟩ := List.mem_map.1 hu
  rfl
theorem u8_info : (Try.prog.info? 5).map (fun i => (i.zero, i.size, i.bytes)) = some (some (.int .u8 0), 1, 1) := by kernel_rfl
theorem str_u8 {w : World} {B m c : Nat} {A : Option Addr} {zs : List Int} (h : w.ownsRow B 5 1 (.slice A m c) m (u8V zs)) :
    (convert 45 9 (.slice A m c)).run Try.prog w = .ok (.string (strOfNums zs)) w := by
  have hlz : zs.length = m := by simpa [u8V] using h.1
  rcases h.2 with ⟨e, h0⟩ | ⟨g, cap, cur, e, h0⟩
  · injection e with e1 e2 e3
    subst e1 e2 e3
    have : zs = [] := List.length_eq_zero_iff.1 hlz
    subst this
    exact run_convert_bytes_nil _ _ _ Try.underlying45 Try.underlying5 _ _ _ Try.underlying9
  · injection e with e1 e2 e3
    subst e1 e3
    refine run_convert_bytes_arg _ _ _ Try.underlying45 Try.underlying5 _ 0 _ _ zs hlz (fun i hi => ?_) _ Try.underlying9
    have hi' : i < zs.length := by omega
    have := h.cells (g := g) rfl i (.int .u8 (zs[i])) (by simp [u8V, hi'])
    have e : (⟨g, 0, none⟩ : Addr).add i = ⟨g, 0 + i, none⟩ := by unfold Addr.add; split <;> simp_all
    rw [e] at this
    simpa [hi'] using this
theorem Keep.grown {lo hi : Nat} {w w1 w2 : World} {row : Option Nat} (h : Keep lo hi w w1) (hg : w1.grownBy w2 row) (hr : ∀ k, row = some k → w.heap.size ≤ k) : Keep lo hi w w2 :=
  ⟨hg.os.trans h.os, hg.tape.trans h.tape, hg.output.trans h.output, Nat.le_trans h.size hg.size, fun k hk ho => (hg.block k (Nat.lt_of_lt_of_le hk h.size) (fun e => by have := hr k e.symm; omega)).trans (h.block k hk ho)⟩
theorem owns_keep {w w' : World} {base sz n lo hi : Nat} {e : TypeId} {v : Value} {xs : List Value} (h : w.ownsRow base e sz v n xs) (hk : Keep lo hi w w') (hb : hi ≤ base) : w'.ownsRow base e sz v n xs := by
  obtain ⟨h1, h2⟩ := h
  refine ⟨h1, ?_⟩
  rcases h2 with h2 | ⟨g, cap, cur, hv, hbb, hh, hr⟩
  · exact .inl h2
  · exact .inr ⟨g, cap, cur, hv, hbb, (hk.block g (Array.getElem?_eq_some_iff.1 hh).1 (.inr (by omega))).trans hh, hr⟩
theorem Src.grown {w w' : World} {q K base sz n : Nat} {e : TypeId} {v : Value} {xs : List Value} (h : Src w q K) (hg : w.grownBy w' v.ownBlock) (ho : w.ownsRow base e sz v n xs) (hq : q < base) (hl : base ≤ w.heap.size) : Src w' q K := by
  obtain ⟨A, n, c, a, s, h1, h2, h3, h4, h5, h6⟩ := h
  have hb : Below base w w' := ⟨hg.os, hg.tape, hg.output, hg.size, fun k hk => hg.block k (by omega) (fun e => by have := (ho.lt k e.symm).1; omega)⟩
  exact ⟨A, n, c, a, s, h1.below hb hq, h2, h3, h4, h5, h6.below hb (by omega)⟩
theorem Keep.high {lo hi : Nat} {w W : World} (h : Keep lo hi w W) {p : Addr} (hp : w.heap.size ≤ p.block) (u : Value) : Keep lo hi w (W.setCell p u) :=
  ⟨h.os, h.tape, h.output, by simpa [World.setCell] using h.size, fun k hk ho => (Below.heap_setCell _ _ _ _ (by omega)).trans (h.block k hk ho)⟩
theorem Src.below {W W' : World} {q K B : Nat} (h : Src W q K) (hb : Below B W W') (hq : q < B) : Src W' q K := by
  obtain ⟨A, n, c, a, s, h1, h2, h3, h4, h5, h6⟩ := h
  exact ⟨A, n, c, a, s, h1.below hb hq, h2, h3, h4, h5, h6.below hb (by omega)⟩
def WordQ (n : Int) (w : World) (q K : Nat) (e : Ending) (w' : World) : Prop := ∃ s : ByteArray, (s.size : Int) < max n 1 ∧ e = .returned (.string s) ∧ Src w' q (K + 1002) ∧ Keep q (q + 1) w w'
set_option maxHeartbeats 3200000 in
theorem word_any {q K : Nat} {n : Int} {w : World} (h : Src w q K) (hK : K ≤ 2000000000) (hn : n ≤ 1000) : Calls Try.prog 78 #[.pointer (some ⟨q, 0, none⟩), .int .i64 n] w fun e w' => WordQ n w q K e w' := by
  obtain ⟨i0, hi, hz0, hz1, hz2⟩ := info_parts u8_info
  have hq := h.lt
  have HS0 := Lib.hid (h.step ((Below.refl _ _).alloc (Nat.le_refl _) (.cells #[] 5)))
  have HO0 : Hid ((w.alloc (.cells #[] 5)).ownsRow w.heap.size 5 1 (.slice (some ⟨w.heap.size, 0, none⟩) 0 0) 0 (u8V [])) := World.ownsRow_made w #[] 0 (Nat.le_refl _) (by simp) (by simp [u8V])
  have HK0 : Hid (Keep q (q + 1) w (w.alloc (.cells #[] 5))) := (Keep.refl _ _ _).alloc _
  go_enter Try.func78, Try.ntmps78
  go_wp2_with fail
  refine (pick_any HS0.out (by omega) (by omega)).mono ?_
  rintro e w1 ⟨b, hb, rfl, S1, k1⟩
  have HS1 := Lib.hid S1
  have HK1 := Lib.hid (HK0.out.trans k1)
  have HO1 := Lib.hid (owns_keep HO0.out k1 (by omega))
  have hb1 : b ≤ 1000 := by omega
  obtain ⟨N, hN⟩ : ∃ N, N = b := ⟨_, rfl⟩
  have HBN : Hid ((N : Int) < max n 1) := by show _ < _; rw [hN]; exact hb
  clear S1 k1 hb
  go_wp2_with fail
  go_loopw [5, 6] (fun o k wr => ∃ (j m : Nat) (v : Value) (zs : List Int), v = o ∧ k = .int .i64 j ∧ j + m = N ∧ zs.length = m ∧ Hid (Src wr q (K + 2 + m)) ∧ Hid (Keep q (q + 1) w wr) ∧ Hid (wr.ownsRow w.heap.size 5 1 v m (u8V zs))) (fun _ k _ => (intOf k).toNat)
  case atStart => exact ⟨b, 0, _, [], rfl, rfl, by omega, rfl, Lib.hid (HS1.out.more (by omega)), HK1, HO1⟩
  case round =>
    clear HS0 HO0 HK0 HS1 HK1 HO1
    obtain ⟨j, m, v, zs, rfl, rfl, hjm, hzs, HS, HK, HO⟩ := hrel
    have HZ := Lib.hid hzs
    clear hzs
    obtain ⟨uA, uN, uC, rfl, _⟩ := (Own.of_own HO.out).form
    by_cases hj : 0 < j
    case neg =>
      have hj0 : j = 0 := by omega
      subst hj0
      have huN : uN = m := by
        rcases HO.out.2 with ⟨e, h0⟩ | ⟨g, cap, cur, e, h0⟩
        · injection e with e1 e2 e3; omega
        · injection e with e1 e2 e3
      subst huN
      have hst := str_u8 HO.out
      go_wp2_with fail
      go_ret
      exact ⟨_, by rw [strOfNums_size]; have := HZ.out; have := HBN.out; omega, rfl, HS.out.more (by omega), HK.out⟩
    have hj2 : (0 : Int) < (j : Int) := by omega
    have hjw : IntKind.i64.wrap ((j : Int) - 1) = (j : Int) - 1 := IntWalk.i64_in _ (by omega)
    have hjw2 : wrap64 ((j : Int) - 1) = (j : Int) - 1 := IntWalk.wrap64_in _ (by omega)
    go_wp2_with fail
    refine (next_any HS.out (by omega)).mono ?_
    rintro e w2 ⟨d, hd, rfl, S2, k2⟩
    have HS2 := Lib.hid S2
    have HK2 := Lib.hid (HK.out.trans k2)
    have HO2 := Lib.hid (owns_keep HO.out k2 (by omega))
    have hdw : IntKind.u8.wrap (d : Int) = (d : Int) := IntWalk.u8_in _ (by omega)
    clear S2 k2
    have hs1 := HO2.out.alloc (.cells #[.int .u8 (d : Int)] 5)
    have HC : Hid (SrcOk (w2.alloc (.cells #[.int .u8 (d : Int)] 5)) (.slice (some ⟨w2.heap.size, 0, none⟩) 1 1) 1 1 (u8V [(d : Int)])) := .inr ⟨⟨w2.heap.size, 0, none⟩, 1, rfl, rfl, World.news_of_block (heap_alloc_new w2 _)⟩
    have hsz : w.heap.size ≤ (w2.alloc (.cells #[.int .u8 (d : Int)] 5)).heap.size := by have := HK2.out.size; simp; omega
    go_wp2_with (at_builtin; go_loud (refine wpList_append_src rfl _ _ 45 rfl w.heap.size 5 i0 (.int .u8 0) 1 1 Try.underlying45 hi hz0 hz1 hz2 rfl (by decide) (.slice uA uN uC) _ _ rfl hs1 _ _ _ rfl HC.out (one_u8 _) (by simp only [maxLen]; omega) (by omega) hsz ?_); intro v' w3 hown' hgrow hor)
    have HK3 := (HK2.out.alloc (.cells #[.int .u8 (d : Int)] 5)).grown hgrow (fun k e => (hs1.lt k e).1)
    have HS3 : Src w3 q (K + 2 + m + 1) := by
      have h1 := HS2.out.step ((Below.refl _ _).alloc (Nat.le_refl _) (.cells #[.int .u8 (d : Int)] 5))
      exact h1.grown hgrow hs1 hq hsz
    go_roundw
    case rel => exact ⟨j - 1, m + 1, _, zs ++ [(d : Int)], rfl, by go_num, by omega, by have := HZ.out; simp; omega, Lib.hid (HS3.more (by omega)), Lib.hid HK3, Lib.hid (by rw [u8V_append]; exact hown')⟩
    case measure => simp [intOf]; omega
end Go.Proofs.Ytlppngpafjfjeaa

namespace Go.Proofs.Ytlppngpafjfjeaa
open Go.RowKit
set_option linter.unusedVariables false
set_option linter.unusedSimpArgs false
set_option linter.unnecessarySimpa false

def offB (a b : Block) : Prop := ∀ p, ¬ (inB_ a p ∧ inB_ b p)
theorem offB_iff {a b : Block} (ha : 0 < a.size) (hb : 0 < b.size) : offB a b ↔ (a.at_ + a.size ≤ b.at_ ∨ b.at_ + b.size ≤ a.at_) := by
  constructor
  · intro h
    rcases Int.lt_or_le b.at_ (a.at_ + a.size) with h1 | h1
    · right
      rcases Int.lt_or_le a.at_ (b.at_ + b.size) with h2 | h2
      · exfalso
        rcases Int.lt_or_le a.at_ b.at_ with h3 | h3
        · exact h b.at_ ⟨by unfold inB_; omega, by unfold inB_; omega⟩
        · exact h a.at_ ⟨by unfold inB_; omega, by unfold inB_; omega⟩
      · exact h2
    · exact .inl h1
  · intro h p hp
    unfold inB_ at hp
    omega
theorem ok_pos {n : Int} : ∀ {fs : List Block} {last : Int}, Ok n last fs → ∀ x ∈ fs, 0 < x.size
  | [], _, _, x, hx => by simp at hx
  | y :: fs, last, h, x, hx => by
    rw [ok_cons] at h
    rcases List.mem_cons.1 hx with rfl | hx
    · exact h.1.1
    · exact ok_pos h.2 x hx
structure FInv (N : Nat) (s : ByteArray) (fs taken : List Block) : Prop where
  size : s.size = N
  le : N ≤ 4096
  ok : Ok N 7 fs
  pos : ∀ b ∈ taken, 0 < b.size
  cover : ∀ p : Int, (8 ≤ p ∧ p < N) ↔ (cov fs p ∨ cov taken p)
  sep : ∀ p, cov fs p → ¬ cov taken p
  pw : taken.Pairwise offB
theorem FInv.memOk {N : Nat} {s : ByteArray} {fs taken : List Block} (h : FInv N s fs taken) : memOk s fs = true := by
  rw [memOk_iff, h.size]; exact ⟨h.le, h.ok⟩
theorem FInv.mem {N : Nat} {s : ByteArray} {fs taken : List Block} (h : FInv N s fs taken) {b : Block} (hb : b ∈ taken) : 8 ≤ b.at_ ∧ b.at_ + b.size ≤ N := by
  have hp := h.pos b hb
  have h1 := (h.cover b.at_).2 (.inr ⟨b, hb, by unfold inB_; omega⟩)
  have h2 := (h.cover (b.at_ + b.size - 1)).2 (.inr ⟨b, hb, by unfold inB_; omega⟩)
  omega
theorem FInv.off {N : Nat} {s : ByteArray} {fs taken : List Block} (h : FInv N s fs taken) {b x : Block} (hb : b ∈ taken) (hx : x ∈ fs) : x.at_ + x.size ≤ b.at_ ∨ b.at_ + b.size ≤ x.at_ :=
  (offB_iff (ok_pos h.ok x hx) (h.pos b hb)).1 fun p hp => h.sep p ⟨x, hx, hp.1⟩ ⟨b, hb, hp.2⟩
theorem take_split {α : Type} {l : List α} {k : Nat} {b : α} (h : l[k]? = some b) : l = l.take k ++ b :: l.drop (k + 1) := by
  obtain ⟨hk, he⟩ := List.getElem?_eq_some_iff.1 h
  rw [← he, ← List.drop_eq_getElem_cons hk, List.take_append_drop]
theorem FInv.rel {N : Nat} {s : ByteArray} {fs taken : List Block} {k : Nat} {b : Block} (h : FInv N s fs taken) (hk : taken[k]? = some b) :
    memRel ⟨s, fs⟩ b.at_ b.size = (⟨s, giveL fs b⟩, 0) ∧ FInv N s (giveL fs b) (taken.take k ++ taken.drop (k + 1)) := by
  have hb : b ∈ taken := List.mem_of_getElem? hk
  have hp := h.pos b hb
  have hm := h.mem hb
  have hap : apart fs b := fun x hx => h.off hb hx
  have hs := h.size
  obtain ⟨g1, g2⟩ := giveL_ok h.ok hp (by omega) hm.2 hap
  refine ⟨?_, ?_⟩
  · have hfree : freeAt fs b.at_ b.size = false := by
      rw [freeAt, List.any_eq_false]
      intro x hx
      have := hap x hx
      simp only [Bool.and_eq_true, decide_eq_true_eq, not_and, Int.not_lt]
      omega
    exact rel_yes h.memOk (by omega) ⟨by omega, by omega, by omega, by omega, hfree⟩
  · have hsp := take_split hk
    have hc : ∀ p, cov taken p ↔ inB_ b p ∨ cov (taken.take k ++ taken.drop (k + 1)) p := fun p => by
      conv => lhs; rw [hsp]
      rw [cov_append, cov_cons, cov_append]
      constructor
      · rintro (h | h | h)
        · exact .inr (.inl h)
        · exact .inl h
        · exact .inr (.inr h)
      · rintro (h | h | h)
        · exact .inr (.inl h)
        · exact .inl h
        · exact .inr (.inr h)
    have hpw := h.pw
    rw [hsp, List.pairwise_append, List.pairwise_cons] at hpw
    obtain ⟨w1, ⟨w2, w3⟩, w4⟩ := hpw
    refine ⟨h.size, h.le, g1, fun x hx => h.pos x ?_, fun p => ?_, fun p hp2 => ?_, ?_⟩
    · rw [hsp]
      rcases List.mem_append.1 hx with h1 | h1
      · exact List.mem_append_left _ h1
      · exact List.mem_append_right _ (List.mem_cons_of_mem _ h1)
    · rw [h.cover, g2, hc]
      constructor
      · rintro (h | h | h)
        · exact .inl (.inr h)
        · exact .inl (.inl h)
        · exact .inr h
      · rintro ((h | h) | h)
        · exact .inr (.inl h)
        · exact .inl h
        · exact .inr (.inr h)
    · rw [g2] at hp2
      rintro ⟨x, hx, hxp⟩
      rcases hp2 with h1 | h1
      · rcases List.mem_append.1 hx with h3 | h3
        · exact w4 x h3 b (by simp) p ⟨hxp, h1⟩
        · exact w2 x h3 p ⟨h1, hxp⟩
      · exact h.sep p h1 ((hc p).2 (.inr ⟨x, hx, hxp⟩))
    · rw [List.pairwise_append]
      exact ⟨w1, w3, fun x hx y hy => w4 x hx y (List.mem_cons_of_mem _ hy)⟩
theorem FInv.alloc {N : Nat} {s : ByteArray} {fs taken l : List Block} {z t : Int} {a : Nat} (h : FInv N s fs taken) (hz : 0 < z) (ha : 1 ≤ a) (hr : allocR fs z a = some (l, t)) :
    FInv N s l (taken ++ [⟨t, z⟩]) ∧ ∀ b ∈ taken, b.at_ + b.size ≤ t ∨ t + z ≤ b.at_ := by
  obtain ⟨i1, i2, i3, i4, i5, i6⟩ := allocR_ok h.ok (by omega) hz ha hr
  have hoff : ∀ b ∈ taken, offB b ⟨t, z⟩ := fun b hb p hp => h.sep p (i3 p hp.2) ⟨b, hb, hp.1⟩
  refine ⟨⟨h.size, h.le, i1, fun b hb => ?_, fun p => ?_, fun p hp => ?_, ?_⟩, fun b hb => (offB_iff (h.pos b hb) hz).1 (hoff b hb)⟩
  · rcases List.mem_append.1 hb with h1 | h1
    · exact h.pos b h1
    · rw [List.mem_singleton] at h1; subst h1; exact hz
  · rw [h.cover, i2, cov_append, cov_cons]
    constructor
    · rintro (h1 | h1)
      · by_cases h2 : inB_ ⟨t, z⟩ p
        · exact .inr (.inr (.inl h2))
        · exact .inl ⟨h1, h2⟩
      · exact .inr (.inl h1)
    · rintro (h1 | h1 | h1 | h1)
      · exact .inl h1.1
      · exact .inr h1
      · exact .inl (i3 p h1)
      · exact absurd h1 (cov_nil p)
  · rw [i2] at hp
    rw [cov_append, cov_cons]
    rintro (h1 | h1 | h1)
    · exact h.sep p hp.1 h1
    · exact hp.2 h1
    · exact cov_nil p h1
  · rw [List.pairwise_append]
    refine ⟨h.pw, by simp, fun x hx y hy => ?_⟩
    rw [List.mem_singleton] at hy; subst hy; exact hoff x hx
theorem freeN_ok (N : Nat) : Ok N 7 (freeN N) ∧ ∀ p, cov (freeN N) p ↔ (8 ≤ p ∧ p < (N : Int)) := by
  rw [freeN]
  split
  · refine ⟨?_, fun p => ?_⟩
    · rw [ok_cons]; exact ⟨by show 0 < (N : Int) - 8 ∧ (7 : Int) < 8 ∧ 8 + ((N : Int) - 8) ≤ N; omega, rfl⟩
    · rw [cov_cons]; unfold inB_; simp only [cov_nil, or_false]; omega
  · exact ⟨rfl, fun p => by simp only [cov_nil, false_iff]; omega⟩
theorem FInv.done {N : Nat} {s : ByteArray} {fs : List Block} (h : FInv N s fs []) : fs = freeN N := by
  obtain ⟨f1, f2⟩ := freeN_ok N
  exact ok_unique h.ok f1 fun p => by
    rw [f2, h.cover]
    constructor
    · exact .inl
    · rintro (h1 | h1)
      · exact h1
      · exact absurd h1 (cov_nil p)
theorem FInv.start {N : Nat} (h : N ≤ 4096) : FInv N (zerosB N) (freeN N) [] := by
  obtain ⟨f1, f2⟩ := freeN_ok N
  exact ⟨zerosB_size N, h, f1, fun b hb => by simp at hb, fun p => by rw [f2]; simp [cov_nil], fun p _ => cov_nil p, List.Pairwise.nil⟩
theorem FInv.len {N : Nat} {s : ByteArray} {fs taken : List Block} (h : FInv N s fs taken) : fs.length ≤ 4096 := (memF h.memOk).len
end Go.Proofs.Ytlppngpafjfjeaa

namespace Go.Proofs.Ytlppngpafjfjeaa
open Go.RowKit
set_option linter.unusedVariables false
set_option linter.unusedSimpArgs false
set_option linter.unnecessarySimpa false

instance : DecidableEq Block := fun ⟨a, b⟩ ⟨c, d⟩ => decidable_of_iff (a = c ∧ b = d) (by simp)
theorem blkS1 : Try.prog.underlying 49 = some (.struct (Try.prog.fieldsOf 49)) := by kernel_rfl
theorem blkS2 : Try.prog.stoodInHeld 49 = false := by kernel_rfl
theorem blkS3 : Try.prog.eqGuardType Try.prog.depth 49 = false := by kernel_rfl
theorem neqBlock (a b c d : Int) (W : World) : (binOp .neq 49 (.agg #[.int .i64 a, .int .i64 b]) (.agg #[.int .i64 c, .int .i64 d])).run Try.prog W = .ok (.bool (!((a == c) && (b == d)))) W := by
  rw [run_neq_struct, run_equalIn_struct _ _ _ _ _ blkS1 blkS2]
  cases h1 : (a == c) <;> cases h2 : (b == d) <;> simp [go_sem, Try.underlying49, Op.eqFields, h1, h2]
theorem eqGuardBlock (x y : Operand) (xs ys : Array Value) (W : World) : (eqGuard .neq 49 x y (.agg xs) (.agg ys)).run Try.prog W = .ok () W := run_eqGuard_agg W _ _ _ _ _ _ blkS3

theorem equalB_any {A A' : Option Addr} {n n' c c' : Nat} {B : Nat} {bs cs : List Block} {w : World} (h : Rep w B (blocks bs) (.slice A n c)) (k : Rep w B (blocks cs) (.slice A' n' c')) :
    Calls Try.prog 36 #[.slice A n c, .slice A' n' c'] w fun e w' => e = .returned (.bool (decide (bs = cs))) ∧ Below w.heap.size w w' := by
  obtain ⟨_, _, _, he, hnl, hm, hat⟩ := rep_row Block.pd_length (by decide) h
  obtain ⟨_, _, _, he', hnl', hm', hat'⟩ := rep_row Block.pd_length (by decide) k
  injection he with e1 e2 e3
  injection he' with e4 e5 e6
  subst e1 e2 e3 e4 e5 e6
  unfold maxLen at hm hm'
  have HN := Lib.hid hnl
  have HM := Lib.hid hnl'
  clear h k hnl hnl'
  by_cases hnm : n = n'
  · subst hnm
    go_enter Try.func36, Try.ntmps36
    go_wp2_with fail
    go_loopw [13] (fun i wr => ∃ k : Nat, k ≤ n ∧ i = .int .i64 k ∧ bs.take k = cs.take k ∧ ∃ q, wr = w.drewN q) (fun i _ => n - (intOf i).toNat)
    case atStart => exact ⟨0, Nat.zero_le _, rfl, rfl, 0, rfl⟩
    case round =>
      obtain ⟨k, hk, rfl, hpre, q, rfl⟩ := hrel
      have HP := Lib.hid hpre
      clear hpre
      by_cases hlt : k < n
      · obtain ⟨g, off, rfl, hg, hcell⟩ := hat (by omega)
        obtain ⟨g', off', rfl, hg', hcell'⟩ := hat' (by omega)
        obtain ⟨b, hx, _⟩ := at_lt HN.out hlt
        obtain ⟨d, hy, _⟩ := at_lt HM.out hlt
        obtain ⟨b0, b1⟩ := b
        obtain ⟨d0, d1⟩ := d
        have c0 : w.cell? ⟨g, off + k * 2, none⟩ = some (.int .i64 b0) := by
          obtain ⟨u, hu, hr⟩ := hcell k 0 _ _ hx rfl
          rwa [hr.of_lit] at hu
        have c1 : w.cell? ⟨g, off + k * 2 + 1, none⟩ = some (.int .i64 b1) := by
          obtain ⟨u, hu, hr⟩ := hcell k 1 _ _ hx rfl
          rwa [hr.of_lit] at hu
        have e0 : w.cell? ⟨g', off' + k * 2, none⟩ = some (.int .i64 d0) := by
          obtain ⟨u, hu, hr⟩ := hcell' k 0 _ _ hy rfl
          rwa [hr.of_lit] at hu
        have e1 : w.cell? ⟨g', off' + k * 2 + 1, none⟩ = some (.int .i64 d1) := by
          obtain ⟨u, hu, hr⟩ := hcell' k 1 _ _ hy rfl
          rwa [hr.of_lit] at hu
        have hlt' : (k : Int) < (n : Int) := by omega
        have HX := Lib.hid hx
        have HY := Lib.hid hy
        have q1 := eqGuardBlock
        have q2 := fun W => neqBlock b0 b1 d0 d1 W
        clear hx hy hcell hcell'
        clear hat hat'
        by_cases g0 : b0 = d0
        · by_cases g1 : b1 = d1
          · have k0 : (b0 == d0) = true := by simp [g0]
            have k1 : (b1 == d1) = true := by simp [g1]
            have HG : Hid ((⟨b0, b1⟩ : Block) = ⟨d0, d1⟩) := by show _ = _; rw [g0, g1]
            clear g0 g1
            go_wp2_with fail
            go_quiet (fail)
            go_wp2_with fail
            go_roundw
            case rel => exact ⟨k + 1, by omega, by go_num, by rw [List.take_add_one, List.take_add_one, HP.out, HX.out, HY.out, HG.out], _, rfl⟩
            case measure => simp [intOf]; omega
          · have k0 : (b0 == d0) = true := by simp [g0]
            have k1 : (b1 == d1) = false := by simpa using g1
            have HG := Lib.hid g1
            clear g0 g1
            go_wp2_with fail
            go_quiet (fail)
            go_wp2_with fail
            go_ret
            refine ⟨ret_bool ?_, by rw [World.drewN_drewN]; exact below_drewN (Below.refl _ _) _⟩
            symm
            rw [decide_eq_false_iff_not]
            intro e
            have h1 := HX.out
            rw [e, HY.out] at h1
            injection h1 with h1
            injection h1 with _ h1
            exact HG.out h1.symm
        · have k0 : (b0 == d0) = false := by simpa using g0
          have HG := Lib.hid g0
          clear g0
          go_wp2_with fail
          go_quiet (fail)
          go_wp2_with fail
          go_ret
          refine ⟨ret_bool ?_, by rw [World.drewN_drewN]; exact below_drewN (Below.refl _ _) _⟩
          symm
          rw [decide_eq_false_iff_not]
          intro e
          have h1 := HX.out
          rw [e, HY.out] at h1
          injection h1 with h1
          injection h1 with h1 _
          exact HG.out h1.symm
      · have hkn : k = n := by omega
        subst hkn
        go_wp2_with fail
        go_ret
        refine ⟨ret_bool ?_, below_drewN (Below.refl _ _) _⟩
        symm
        rw [decide_eq_true_iff]
        have := HP.out
        rwa [List.take_of_length_le (by have := HN.out; omega), List.take_of_length_le (by have := HM.out; omega)] at this
  · have hb : ((n : Int) != (n' : Int)) = true := by simp; omega
    clear hat hat'
    go_enter Try.func36, Try.ntmps36
    go_wp2_with fail
    go_ret
    refine ⟨ret_bool ?_, Below.refl _ _⟩
    symm
    rw [decide_eq_false_iff_not]
    intro e
    subst e
    have h1 := HN.out
    have h2 := HM.out
    omega

def sameMem (s : ByteArray) (bs : List Block) (t : ByteArray) (cs : List Block) : Bool := decide (s = t) && decide (bs = cs)
theorem str_ne {s t : ByteArray} (h : s ≠ t) : (s.toList == t.toList) = false := by
  rw [beq_eq_false_iff_ne]
  intro e
  rw [ByteArray.toList_eq, ByteArray.toList_eq] at e
  exact h (by cases s; cases t; congr; exact Array.toList_inj.1 e)

theorem implSame_any {s t : ByteArray} {A A' : Option Addr} {n n' c c' : Nat} {B : Nat} {bs cs : List Block} {w : World} (hB : B ≤ w.heap.size) (h : Rep w B (blocks bs) (.slice A n c)) (k : Rep w B (blocks cs) (.slice A' n' c')) :
    Calls Try.prog 15 #[.agg #[.string s, .slice A n c], .agg #[.string t, .slice A' n' c']] w fun e w' => e = .returned (.bool (sameMem s bs t cs)) ∧ Below w.heap.size w w' := by
  have hb : Below w.heap.size w ((w.alloc (.cells #[.string s, .slice A n c] 29)).alloc (.cells #[.string t, .slice A' n' c'] 29)) := ((Below.refl _ _).alloc (Nat.le_refl _) _).alloc (by simp) _
  have H := Lib.hid (h.below (hb.mono hB))
  have K := Lib.hid (k.below (hb.mono hB))
  have HB := Lib.hid hb
  clear h k hb
  by_cases hst : s = t
  · subst hst
    have HF : Hid (sameMem s bs s cs = decide (bs = cs)) := by show _ = _; simp [sameMem]
    go_enter Try.func15, Try.ntmps15
    go_wp2_with fail
    refine (equalB_any H.out K.out).mono ?_
    rintro e w2 ⟨rfl, hb2⟩
    go_wp2_with fail
    go_ret
    exact ⟨ret_bool HF.out.symm, HB.out.trans (hb2.mono (by simp; omega))⟩
  · have HF : Hid (sameMem s bs t cs = false) := by show _ = _; simp [sameMem, hst]
    have h1 := str_ne hst
    clear hst
    go_enter Try.func15, Try.ntmps15
    go_wp2_with fail
    go_ret
    exact ⟨ret_bool HF.out.symm, HB.out⟩

set_option maxHeartbeats 1600000 in
theorem specSame_any {s t : ByteArray} {A A' : Option Addr} {n n' c c' : Nat} {B : Nat} {bs cs : List Block} {w : World} (hB : B ≤ w.heap.size) (h : Rep w B (blocks bs) (.slice A n c)) (k : Rep w B (blocks cs) (.slice A' n' c')) :
    Calls Try.prog 13 #[.agg #[.string s, .slice A n c], .agg #[.string t, .slice A' n' c']] w fun e w' => e = .returned (.bool (sameMem s bs t cs)) ∧ Below w.heap.size w w' := by
  obtain ⟨_, _, _, he, hnl, hm, hat⟩ := rep_row Block.pd_length (by decide) h
  obtain ⟨_, _, _, he', hnl', hm', hat'⟩ := rep_row Block.pd_length (by decide) k
  injection he with e1 e2 e3
  injection he' with e4 e5 e6
  subst e1 e2 e3 e4 e5 e6
  unfold maxLen at hm hm'
  have HN := Lib.hid hnl
  have HM := Lib.hid hnl'
  clear h k
  by_cases hst : s = t
  · subst hst
    have HF : Hid (sameMem s bs s cs = decide (bs = cs)) := by show _ = _; simp [sameMem]
    by_cases hnm : n = n'
    · subst hnm
      clear hnl hnl'
      go_enter Try.func13, Try.ntmps13
      go_wp2_with fail
      obtain ⟨W1, hW1⟩ : ∃ W1, W1 = (w.alloc (.cells #[.string s, .slice A n c] 29)).alloc (.cells #[.string s, .slice A' n c'] 29) := ⟨_, rfl⟩
      rw [← hW1]
      have bA : Blk W1 w.heap.size 29 #[.string s, .slice A n c] := by rw [hW1]; exact (Blk.new w _ _).alloc _
      have bC : Blk W1 (w.heap.size + 1) 29 #[.string s, .slice A' n c'] := by rw [hW1]; have := Blk.new (w.alloc (.cells #[.string s, .slice A n c] 29)) 29 #[.string s, .slice A' n c']; simpa using this
      have hb : Below w.heap.size w W1 := by rw [hW1]; exact ((Below.refl _ _).alloc (Nat.le_refl _) _).alloc (by simp) _
      have a1 : W1.cell? ⟨w.heap.size, 1, none⟩ = some (.slice A n c) := bA.cell 1
      have a2 : W1.cell? ⟨w.heap.size + 1, 1, none⟩ = some (.slice A' n c') := bC.cell 1
      clear hW1 bA bC
      go_loopw [5] (fun i wr => ∃ k : Nat, k ≤ n ∧ i = .int .i64 k ∧ bs.take k = cs.take k ∧ ∃ q, wr = W1.drewN q) (fun i _ => n - (intOf i).toNat)
      case atStart => exact ⟨0, Nat.zero_le _, rfl, rfl, 0, rfl⟩
      case round =>
        obtain ⟨k, hk, rfl, hpre, q, rfl⟩ := hrel
        have HP := Lib.hid hpre
        clear hpre
        by_cases hlt : k < n
        · obtain ⟨g, off, rfl, hg, hcell⟩ := hat (by omega)
          obtain ⟨g', off', rfl, hg', hcell'⟩ := hat' (by omega)
          obtain ⟨b, hx, _⟩ := at_lt HN.out hlt
          obtain ⟨d, hy, _⟩ := at_lt HM.out hlt
          obtain ⟨b0, b1⟩ := b
          obtain ⟨d0, d1⟩ := d
          have c0 : W1.cell? ⟨g, off + k * 2, none⟩ = some (.int .i64 b0) := by
            obtain ⟨u, hu, hr⟩ := hcell k 0 _ _ hx rfl
            rw [hr.of_lit] at hu
            exact (hb.cell (by show g < _; omega)).trans hu
          have c1 : W1.cell? ⟨g, off + k * 2 + 1, none⟩ = some (.int .i64 b1) := by
            obtain ⟨u, hu, hr⟩ := hcell k 1 _ _ hx rfl
            rw [hr.of_lit] at hu
            exact (hb.cell (by show g < _; omega)).trans hu
          have e0 : W1.cell? ⟨g', off' + k * 2, none⟩ = some (.int .i64 d0) := by
            obtain ⟨u, hu, hr⟩ := hcell' k 0 _ _ hy rfl
            rw [hr.of_lit] at hu
            exact (hb.cell (by show g' < _; omega)).trans hu
          have e1 : W1.cell? ⟨g', off' + k * 2 + 1, none⟩ = some (.int .i64 d1) := by
            obtain ⟨u, hu, hr⟩ := hcell' k 1 _ _ hy rfl
            rw [hr.of_lit] at hu
            exact (hb.cell (by show g' < _; omega)).trans hu
          have hlt' : (k : Int) < (n : Int) := by omega
          have HX := Lib.hid hx
          have HY := Lib.hid hy
          have q1 := eqGuardBlock
          have q2 := fun W => neqBlock b0 b1 d0 d1 W
          clear hx hy hcell hcell'
          clear hat hat'
          by_cases g0 : b0 = d0
          · by_cases g1 : b1 = d1
            · have k0 : (b0 == d0) = true := by simp [g0]
              have k1 : (b1 == d1) = true := by simp [g1]
              have HG : Hid ((⟨b0, b1⟩ : Block) = ⟨d0, d1⟩) := by show _ = _; rw [g0, g1]
              clear g0 g1
              go_wp2_with fail
              go_quiet (fail)
              go_wp2_with fail
              go_roundw
              case rel => exact ⟨k + 1, by omega, by go_num, by rw [List.take_add_one, List.take_add_one, HP.out, HX.out, HY.out, HG.out], _, rfl⟩
              case measure => simp [intOf]; omega
            · have k0 : (b0 == d0) = true := by simp [g0]
              have k1 : (b1 == d1) = false := by simpa using g1
              have HG := Lib.hid g1
              clear g0 g1
              go_wp2_with fail
              go_quiet (fail)
              go_wp2_with fail
              go_ret
              refine ⟨ret_bool ?_, by rw [World.drewN_drewN]; exact below_drewN hb _⟩
              symm
              rw [HF.out, decide_eq_false_iff_not]
              intro e
              have h1 := HX.out
              rw [e, HY.out] at h1
              injection h1 with h1
              injection h1 with _ h1
              exact HG.out h1.symm
          · have k0 : (b0 == d0) = false := by simpa using g0
            have HG := Lib.hid g0
            clear g0
            go_wp2_with fail
            go_quiet (fail)
            go_wp2_with fail
            go_ret
            refine ⟨ret_bool ?_, by rw [World.drewN_drewN]; exact below_drewN hb _⟩
            symm
            rw [HF.out, decide_eq_false_iff_not]
            intro e
            have h1 := HX.out
            rw [e, HY.out] at h1
            injection h1 with h1
            injection h1 with h1 _
            exact HG.out h1.symm
        · have hkn : k = n := by omega
          subst hkn
          go_wp2_with fail
          go_ret
          refine ⟨ret_bool ?_, below_drewN hb _⟩
          symm
          rw [HF.out, decide_eq_true_iff]
          have := HP.out
          rwa [List.take_of_length_le (by have := HN.out; omega), List.take_of_length_le (by have := HM.out; omega)] at this
    · have hne : bs ≠ cs := fun e => by subst e; omega
      have HG : Hid (sameMem s bs s cs = false) := by show _ = _; simp [sameMem, hne]
      have hb : ((n : Int) != (n' : Int)) = true := by simp; omega
      clear hat hat' hnl hnl' hne
      go_enter Try.func13, Try.ntmps13
      go_wp2_with fail
      go_ret
      exact ⟨ret_bool HG.out.symm, ((Below.refl _ _).alloc (Nat.le_refl _) _).alloc (by simp) _⟩
  · have HG : Hid (sameMem s bs t cs = false) := by show _ = _; simp [sameMem, hst]
    have h1 := str_ne hst
    have h2 : (s.toList != t.toList) = true := by simpa using h1
    clear hst hat hat' hnl hnl'
    go_enter Try.func13, Try.ntmps13
    go_wp2_with fail
    go_ret
    exact ⟨ret_bool HG.out.symm, ((Below.refl _ _).alloc (Nat.le_refl _) _).alloc (by simp) _⟩
end Go.Proofs.Ytlppngpafjfjeaa

namespace Go.Proofs.Ytlppngpafjfjeaa
open Go.RowKit
set_option linter.unusedVariables false
set_option linter.unusedSimpArgs false
set_option linter.unnecessarySimpa false

theorem owns_mono {w : World} {b b' sz n : Nat} {e : TypeId} {v : Value} {xs : List Value} (h : w.ownsRow b' e sz v n xs) (hb : b ≤ b') : w.ownsRow b e sz v n xs := by
  obtain ⟨h1, h2⟩ := h
  refine ⟨h1, ?_⟩
  rcases h2 with h2 | ⟨g, cap, cur, hv, hbb, rest⟩
  · exact .inl h2
  · exact .inr ⟨g, cap, cur, hv, by omega, rest⟩
/-- a memory that is held: the row of its free blocks lies in blocks that are none of the two boxes nor the row of the taken ones -/
def HeldM (W : World) (pm : Nat) (tv : Value) (fs : List Block) (fv : Value) : Prop := ∃ F, Hold W (blocks fs) fv F ∧ ∀ g ∈ F, g < W.heap.size ∧ g ≠ pm ∧ tv.ownBlock ≠ some g
theorem HeldM.rep {W : World} {pm : Nat} {tv fv : Value} {fs : List Block} (h : HeldM W pm tv fs fv) : Rep W W.heap.size (blocks fs) fv := by
  obtain ⟨F, h1, h2⟩ := h
  exact Hold.rep _ _ F h1 fun g hg => (h2 g hg).1
theorem HeldM.cap {W : World} {pm : Nat} {tv fv : Value} {fs : List Block} (h : HeldM W pm tv fs fv) : ∀ A n c, fv = .slice A n c → n ≤ c := by
  obtain ⟨F, h1, h2⟩ := h
  intro A n c e
  subst e
  exact hold_cap h1
theorem HeldM.same {W W' : World} {pm : Nat} {tv tv' fv : Value} {fs : List Block} (h : HeldM W pm tv fs fv) (hs : W.heap.size ≤ W'.heap.size) (hb : ∀ g, g < W.heap.size → g ≠ pm → tv.ownBlock ≠ some g → W'.heap[g]? = W.heap[g]?) (ht : ∀ g, g < W.heap.size → tv.ownBlock ≠ some g → tv'.ownBlock ≠ some g) : HeldM W' pm tv' fs fv := by
  obtain ⟨F, h1, h2⟩ := h
  exact ⟨F, Hold.keep _ _ F h1 fun g hg => hb g (h2 g hg).1 (h2 g hg).2.1 (h2 g hg).2.2, fun g hg => ⟨Nat.lt_of_lt_of_le (h2 g hg).1 hs, (h2 g hg).2.1, ht g (h2 g hg).1 (h2 g hg).2.2⟩⟩
structure FreS (w W : World) (pm pw N : Nat) (s : ByteArray) (fs taken : List Block) (tv fv : Value) : Prop where
  box : Blk W pm 29 #[.string s, fv]
  hold : HeldM W pm tv fs fv
  whole : ∃ fw, Blk W pw 29 #[.string s, fw] ∧ HeldM W pm tv (freeN N) fw
  row : W.ownsRow (pw + 1) 49 2 tv taken.length (bvals taken)
  below : Below w.heap.size w W
  lo : w.heap.size ≤ pm
  lt : pm < pw
theorem FreS.step {w W W' : World} {pm pw N : Nat} {s : ByteArray} {fs taken : List Block} {tv fv : Value} (h : FreS w W pm pw N s fs taken tv fv) (hb : Below W.heap.size W W') : FreS w W' pm pw N s fs taken tv fv := by
  obtain ⟨fw, w1, w2⟩ := h.whole
  exact ⟨h.box.step hb, h.hold.same hb.size (fun g hg _ _ => hb.block g hg) (fun g _ e => e), ⟨fw, w1.step hb, w2.same hb.size (fun g hg _ _ => hb.block g hg) (fun g _ e => e)⟩, owns_step h.row hb, h.below.trans (hb.mono h.below.size), h.lo, h.lt⟩
theorem FreS.setm {w W : World} {pm pw N : Nat} {s : ByteArray} {fs fs2 taken : List Block} {tv fv fv2 : Value} (h : FreS w W pm pw N s fs taken tv fv) (h2 : HeldM W pm tv fs2 fv2) :
    FreS w ((W.setCell ⟨pm, 0, none⟩ (.string s)).setCell ⟨pm, 1, none⟩ fv2) pm pw N s fs2 taken tv fv2 := by
  obtain ⟨fw, w1, w2⟩ := h.whole
  have hk : ∀ g, g < W.heap.size → g ≠ pm → tv.ownBlock ≠ some g → ((W.setCell ⟨pm, 0, none⟩ (.string s)).setCell ⟨pm, 1, none⟩ fv2).heap[g]? = W.heap[g]? := fun g _ hg _ => (Below.heap_setCell _ _ _ _ hg).trans (Below.heap_setCell _ _ _ _ hg)
  have hsz : W.heap.size ≤ ((W.setCell ⟨pm, 0, none⟩ (.string s)).setCell ⟨pm, 1, none⟩ fv2).heap.size := by simp
  refine ⟨?_, h2.same hsz hk (fun g _ e => e), ⟨fw, ?_, w2.same hsz hk (fun g _ e => e)⟩, ?_, ?_, h.lo, h.lt⟩
  · have := (h.box.set_ 0 (.string s)).set_ 1 fv2
    simpa using this
  · have := h.lt
    exact (w1.far (p := ⟨pm, 0, none⟩) (by show pw ≠ pm; omega) _).far (p := ⟨pm, 1, none⟩) (by show pw ≠ pm; omega) _
  · have := h.lt
    exact owns_far (owns_far h.row (p := ⟨pm, 0, none⟩) (by show pm < pw + 1; omega) _) (p := ⟨pm, 1, none⟩) (by show pm < pw + 1; omega) _
  · exact (h.below.setCell (p := ⟨pm, 0, none⟩) h.lo _).setCell (p := ⟨pm, 1, none⟩) h.lo _
theorem FreS.push {w W W1 W' : World} {pm pw N : Nat} {s : ByteArray} {fs taken t2 : List Block} {tv tv' fv : Value} (h : FreS w W pm pw N s fs taken tv fv) (hb : Below W.heap.size W W1) (hg : W1.grownBy W' tv.ownBlock) (hrow : W'.ownsRow (pw + 1) 49 2 tv' t2.length (bvals t2))
    (hor : tv'.ownBlock = tv.ownBlock ∨ tv'.ownBlock = some W1.heap.size) : FreS w W' pm pw N s fs t2 tv' fv := by
  obtain ⟨fw, w1, w2⟩ := h.whole
  have S1 := h.step hb
  have hs : W.heap.size ≤ W'.heap.size := Nat.le_trans hb.size hg.size
  have hk : ∀ g, g < W.heap.size → g ≠ pm → tv.ownBlock ≠ some g → W'.heap[g]? = W.heap[g]? := fun g hl _ hne => (hg.block g (Nat.lt_of_lt_of_le hl hb.size) (fun e => hne e.symm)).trans (hb.block g hl)
  have ht : ∀ g, g < W.heap.size → tv.ownBlock ≠ some g → tv'.ownBlock ≠ some g := fun g hl hne e => by
    rcases hor with h1 | h1
    · exact hne (h1 ▸ e)
    · rw [h1] at e; injection e with e; have := hb.size; omega
  have hpm : some pm ≠ tv.ownBlock := fun e => by have := (h.row.lt _ e.symm).1; have := h.lt; omega
  have hpw : some pw ≠ tv.ownBlock := fun e => by have := (h.row.lt _ e.symm).1; omega
  refine ⟨?_, h.hold.same hs hk ht, ⟨fw, ?_, w2.same hs hk ht⟩, hrow, ?_, h.lo, h.lt⟩
  · exact (hg.block pm S1.box.lt hpm).trans S1.box
  · have := w1.step hb
    exact (hg.block pw this.lt hpw).trans this
  · exact S1.below.grown hg S1.below.size (fun k e => by have := (h.row.lt _ e).1; have := h.lt; have := h.lo; omega)
theorem FreS.anew {w W W' : World} {pm pw N : Nat} {s : ByteArray} {fs taken t2 : List Block} {tv tv' fv : Value} (h : FreS w W pm pw N s fs taken tv fv) (hb : Below W.heap.size W W') (hrow : W'.ownsRow W.heap.size 49 2 tv' t2.length (bvals t2)) : FreS w W' pm pw N s fs t2 tv' fv := by
  obtain ⟨fw, w1, w2⟩ := h.whole
  have ht : ∀ g, g < W.heap.size → tv.ownBlock ≠ some g → tv'.ownBlock ≠ some g := fun g hl _ e => by have := (hrow.lt _ e).1; omega
  exact ⟨h.box.step hb, h.hold.same hb.size (fun g hg _ _ => hb.block g hg) ht, ⟨fw, w1.step hb, w2.same hb.size (fun g hg _ _ => hb.block g hg) ht⟩, owns_mono hrow w1.lt, h.below.trans (hb.mono h.below.size), h.lo, h.lt⟩
/-- a memory that a callee made -/
theorem held_new {W' : World} {lo hi pm : Nat} {tv fv : Value} {fs : List Block} (h : Lv W' lo hi (blocks fs) fv) (hpm : pm < lo) (ht : ∀ g, tv.ownBlock = some g → g < lo) : HeldM W' pm tv fs fv := by
  obtain ⟨F, h1, h2, h3⟩ := h
  exact ⟨F, h1, fun g hg => ⟨by have := h2.2 g hg; omega, by have := h2.2 g hg; omega, fun e => by have := ht g e; have := h2.2 g hg; omega⟩⟩
theorem HeldM.step {W W' : World} {pm : Nat} {tv fv : Value} {fs : List Block} (h : HeldM W pm tv fs fv) (hb : Below W.heap.size W W') : HeldM W' pm tv fs fv := h.same hb.size (fun g hg _ _ => hb.block g hg) (fun g _ e => e)
theorem blk_wf {s : ByteArray} {fs : List Block} (h : MemF s fs) : ∀ b ∈ fs, b.wf := fun b hb => by
  have := h.all_ b hb
  have := h.size
  exact ⟨WalkArith.wf_i64 (by omega), WalkArith.wf_i64 (by omega)⟩
theorem owns_len {W : World} {base n c : Nat} {A : Option Addr} {l : List Block} (h : W.ownsRow base 49 2 (.slice A n c) l.length (bvals l)) : n = l.length := by
  obtain ⟨A', n', c', e, hn, _, _⟩ := rep_row Block.pd_length (by decide) (lv_blk h).is
  injection e with e1 e2 e3
  omega
theorem owns_at {W : World} {base n c g off : Nat} {l : List Block} (h : W.ownsRow base 49 2 (.slice (some ⟨g, off, none⟩) n c) l.length (bvals l)) (hl : 0 < l.length) : n = l.length ∧ AtB W g off l ∧ g < W.heap.size := by
  have hr := (lv_blk h).is
  obtain ⟨A', n', c', e, hn, _, _⟩ := rep_row Block.pd_length (by decide) hr
  injection e with e1 e2 e3
  subst e2
  obtain ⟨a1, a2⟩ := at_rep hr (by omega)
  exact ⟨hn, a1, a2⟩
theorem four_at (z : Nat) (hz : (z : Int) < max 4 1) : ∃ al : Nat, alOk (al : Int) = true ∧ ∀ (W' : World) (g t : Nat), Blk W' g t #[.int .i64 1, .int .i64 2, .int .i64 4, .int .i64 8] → W'.cell? ⟨g, z, none⟩ = some (.int .i64 al) := by
  rcases (show z = 0 ∨ z = 1 ∨ z = 2 ∨ z = 3 by omega) with rfl | rfl | rfl | rfl
  · exact ⟨1, rfl, fun W' g t h => h.cell 0⟩
  · exact ⟨2, rfl, fun W' g t h => h.cell 1⟩
  · exact ⟨4, rfl, fun W' g t h => h.cell 2⟩
  · exact ⟨8, rfl, fun W' g t h => h.cell 3⟩
end Go.Proofs.Ytlppngpafjfjeaa

namespace Go.Proofs.Ytlppngpafjfjeaa
open Go.RowKit
set_option linter.unusedVariables false
set_option linter.unusedSimpArgs false
set_option linter.unnecessarySimpa false

def sumTo (bs : List Block) (k : Nat) : Int := ((bs.take k).map Block.size).sum
def freeB (s : ByteArray) (bs : List Block) : Int := if memOk s bs then sumTo bs bs.length else 0
theorem sumTo_succ {bs : List Block} {k : Nat} {b : Block} (h : bs[k]? = some b) : sumTo bs (k + 1) = sumTo bs k + b.size := by
  unfold sumTo
  rw [List.take_add_one, h]
  simp
theorem blkOk_size {n : Int} (h4 : n ≤ 4096) : ∀ {bs : List Block} {last : Int}, 0 ≤ last → blkOk n last bs = true → ∀ b ∈ bs, 0 < b.size ∧ b.size ≤ 4096
  | [], last, _, _ => by simp
  | b :: bs, last, h0, h => by
    rw [blkOk, Bool.and_eq_true] at h
    obtain ⟨h1, h2⟩ := h
    simp only [stepOk, Bool.and_eq_true, decide_eq_true_eq] at h1
    intro c hc
    rcases List.mem_cons.1 hc with rfl | hc
    · omega
    · exact blkOk_size h4 (by omega) h2 c hc
theorem sumTo_bound {bs : List Block} (h : ∀ b ∈ bs, 0 < b.size ∧ b.size ≤ 4096) : ∀ k : Nat, k ≤ bs.length → 0 ≤ sumTo bs k ∧ sumTo bs k ≤ 4096 * (k : Int)
  | 0, _ => by simp [sumTo]
  | k + 1, hk => by
    have ih := sumTo_bound h k (by omega)
    have hb := h bs[k] (List.getElem_mem _)
    rw [sumTo_succ (List.getElem?_eq_getElem (by omega))]
    omega
theorem memOk_facts {s : ByteArray} {bs : List Block} (h : memOk s bs = true) : (∀ b ∈ bs, 0 < b.size ∧ b.size ≤ 4096) ∧ bs.length ≤ 4096 := by
  simp only [memOk, Bool.and_eq_true, decide_eq_true_eq] at h
  refine ⟨blkOk_size (by omega) (by omega) h.2, ?_⟩
  rcases blkOk_len h.2 with rfl | h2
  · simp
  · omega

set_option maxHeartbeats 800000 in
theorem implFree_any {s : ByteArray} {v : Value} {B : Nat} {bs : List Block} {w : World} (hs : s.size ≤ maxLen) (hB : B ≤ w.heap.size) (h : Rep w B (blocks bs) v) (hw : ∀ b ∈ bs, b.wf) :
    Calls Try.prog 20 #[.agg #[.string s, v]] w fun e w' => e = .returned (.int .i64 (freeB s bs)) ∧ Below w.heap.size w w' := by
  obtain ⟨A, m, c, rfl, hnl, hm, hat⟩ := rep_row Block.pd_length (by decide) h
  unfold maxLen at hm
  have HN := Lib.hid hnl
  have HR := Lib.hid h
  have HW := Lib.hid hw
  have HS := Lib.hid hs
  clear h hnl hw hs
  cases hok : memOk s bs
  · have HF : Hid (freeB s bs = 0) := by show _ = _; simp [freeB, hok]
    have HO := Lib.hid hok
    clear hok
    go_enter Try.func20, Try.ntmps20
    go_wp2_with fail
    have hb0 : Below w.heap.size w (w.alloc (.cells #[.string s, .slice A m c] 29)) := (Below.refl _ _).alloc (Nat.le_refl _) _
    refine (implMemoryOk_any HS.out (by simp; omega) (HR.out.below (hb0.mono hB)) HW.out).mono ?_
    rintro e w1 ⟨rfl, hb1⟩
    rw [HO.out]
    go_wp2_with fail
    go_ret
    exact ⟨ret_int HF.out.symm, below_box hb1⟩
  · have HF : Hid (freeB s bs = sumTo bs bs.length) := by show _ = _; simp [freeB, hok]
    have HO := Lib.hid hok
    have hfa := memOk_facts hok
    have HB := Lib.hid hfa.1
    have hml : m ≤ 4096 := by have := HN.out; have := hfa.2; omega
    clear hok hfa
    go_enter Try.func20, Try.ntmps20
    go_wp2_with fail
    have hb0 : Below w.heap.size w (w.alloc (.cells #[.string s, .slice A m c] 29)) := (Below.refl _ _).alloc (Nat.le_refl _) _
    refine (implMemoryOk_any HS.out (by simp; omega) (HR.out.below (hb0.mono hB)) HW.out).mono ?_
    rintro e w1 ⟨rfl, hb1⟩
    rw [HO.out]
    have hB1 := below_box hb1
    have a1 : w1.cell? ⟨w.heap.size, 1, none⟩ = some (.slice A m c) := box_cell hb1 1
    clear hb1 hb0
    go_wp2_with fail
    go_loopw [3, 12] (fun l i wr => ∃ k : Nat, k ≤ m ∧ i = .int .i64 k ∧ l = .int .i64 (sumTo bs k) ∧ Below w.heap.size w wr) (fun _ i _ => m - (intOf i).toNat)
    case atStart => exact ⟨0, Nat.zero_le _, rfl, rfl, hB1⟩
    case round =>
      obtain ⟨k, hk, rfl, rfl, hbr⟩ := hrel
      clear hB1
      have hsz := hbr.size
      obtain ⟨z, hz⟩ : ∃ z, z = sumTo bs k := ⟨_, rfl⟩
      have hzb := sumTo_bound HB.out k (by have := HN.out; omega)
      rw [← hz] at hzb
      obtain ⟨hz1, hz2⟩ := hzb
      have HZ := Lib.hid hz
      rw [← hz]
      clear hz
      by_cases hlt : k < m
      · obtain ⟨g, off, rfl, hg, hcell⟩ := hat (by omega)
        obtain ⟨b, hx, hmem⟩ := at_lt HN.out hlt
        have c0 : wr.cell? ⟨g, off + k * 2, none⟩ = some (.int .i64 b.at_) := by
          obtain ⟨u, hu, hr⟩ := hcell k 0 b _ hx rfl
          rw [hr.of_lit] at hu
          exact (hbr.cell (by show g < _; omega)).trans hu
        have c1 : wr.cell? ⟨g, off + k * 2 + 1, none⟩ = some (.int .i64 b.size) := by
          obtain ⟨u, hu, hr⟩ := hcell k 1 b _ hx rfl
          rw [hr.of_lit] at hu
          exact (hbr.cell (by show g < _; omega)).trans hu
        obtain ⟨x, hxx⟩ : ∃ x, x = b.at_ := ⟨_, rfl⟩
        obtain ⟨y, hyy⟩ : ∃ y, y = b.size := ⟨_, rfl⟩
        have hy := HB.out b hmem
        rw [← hxx] at c0
        rw [← hyy] at c1 hy
        obtain ⟨hy1, hy2⟩ := hy
        have HX := Lib.hid (sumTo_succ hx)
        have HYY := Lib.hid hyy
        clear hx hcell hxx hyy
        have hbn := (hbr.alloc hsz (.cells #[.int .i64 x, .int .i64 y] 49))
        clear hbr
        go_wp2_with fail
        go_roundw
        case rel => exact ⟨k + 1, by omega, by go_num, by rw [HX.out, ← HZ.out, ← HYY.out], hbn⟩
        case measure => simp [intOf]; omega
      · have hkn : k = m := by omega
        subst hkn
        go_wp2_with fail
        go_ret
        exact ⟨ret_int (by rw [HF.out, HZ.out, HN.out]), hbr⟩

set_option maxHeartbeats 800000 in
theorem specFree_any {s : ByteArray} {v : Value} {B : Nat} {bs : List Block} {w : World} (hs : s.size ≤ maxLen) (hB : B ≤ w.heap.size) (h : Rep w B (blocks bs) v) (hw : ∀ b ∈ bs, b.wf) :
    Calls Try.prog 19 #[.agg #[.string s, v]] w fun e w' => e = .returned (.int .i64 (freeB s bs)) ∧ Below w.heap.size w w' := by
  obtain ⟨A, m, c, rfl, hnl, hm, hat⟩ := rep_row Block.pd_length (by decide) h
  unfold maxLen at hm
  have HN := Lib.hid hnl
  have HR := Lib.hid h
  have HW := Lib.hid hw
  have HS := Lib.hid hs
  clear h hnl hw hs
  cases hok : memOk s bs
  · have HF : Hid (freeB s bs = 0) := by show _ = _; simp [freeB, hok]
    have HO := Lib.hid hok
    clear hok
    go_enter Try.func19, Try.ntmps19
    go_wp2_with fail
    obtain ⟨W1, hW1⟩ : ∃ W1, W1 = w.alloc (.cells #[.string s, .slice A m c] 29) := ⟨_, rfl⟩
    rw [← hW1]
    have bA : Blk W1 w.heap.size 29 #[.string s, .slice A m c] := by rw [hW1]; exact Blk.new w _ _
    have hb0 : Below w.heap.size w W1 := by rw [hW1]; exact (Below.refl _ _).alloc (Nat.le_refl _) _
    clear hW1
    go_loopw [3, 4] (fun l i wr => i = .int .i64 0 ∧ l = .int .i64 0 ∧ wr = W1) (fun _ i _ => 0)
    case atStart => exact ⟨rfl, rfl, rfl⟩
    obtain ⟨rfl, rfl, rfl⟩ := hrel
    have a0 : wr.cell? ⟨w.heap.size, 0, none⟩ = some (.string s) := bA.cell 0
    have a1 : wr.cell? ⟨w.heap.size, 1, none⟩ = some (.slice A m c) := bA.cell 1
    by_cases h0 : 0 < m
    · go_wp2_with fail
      refine (specMemoryOk_any HS.out (by have := hb0.size; omega) (HR.out.below (hb0.mono hB)) HW.out).mono ?_
      rintro e w1 ⟨rfl, hb1⟩
      rw [HO.out]
      have hB1 := hb0.trans (hb1.mono hb0.size)
      clear bA a0 a1 hb0
      go_wp2_with fail
      go_ret
      exact ⟨ret_int HF.out.symm, hB1⟩
    · have hm0 : m = 0 := by omega
      subst hm0
      go_wp2_with fail
      go_ret
      exact ⟨ret_int HF.out.symm, hb0⟩
  · have HF : Hid (freeB s bs = sumTo bs bs.length) := by show _ = _; simp [freeB, hok]
    have HO := Lib.hid hok
    have hfa := memOk_facts hok
    have HB := Lib.hid hfa.1
    have hml : m ≤ 4096 := by have := HN.out; have := hfa.2; omega
    clear hok hfa
    go_enter Try.func19, Try.ntmps19
    go_wp2_with fail
    obtain ⟨W1, hW1⟩ : ∃ W1, W1 = w.alloc (.cells #[.string s, .slice A m c] 29) := ⟨_, rfl⟩
    rw [← hW1]
    have bA : Blk W1 w.heap.size 29 #[.string s, .slice A m c] := by rw [hW1]; exact Blk.new w _ _
    have hb0 : Below w.heap.size w W1 := by rw [hW1]; exact (Below.refl _ _).alloc (Nat.le_refl _) _
    clear hW1
    go_loopw [3, 4] (fun l i wr => ∃ k : Nat, k ≤ m ∧ i = .int .i64 k ∧ l = .int .i64 (sumTo bs k) ∧ Below w.heap.size w wr ∧ Blk wr w.heap.size 29 #[.string s, .slice A m c]) (fun _ i _ => m - (intOf i).toNat)
    case atStart => exact ⟨0, Nat.zero_le _, rfl, rfl, hb0, bA⟩
    case round =>
      obtain ⟨k, hk, rfl, rfl, hbr, hbk⟩ := hrel
      clear hb0 bA
      have hsz := hbr.size
      obtain ⟨z, hz⟩ : ∃ z, z = sumTo bs k := ⟨_, rfl⟩
      have hzb := sumTo_bound HB.out k (by have := HN.out; omega)
      rw [← hz] at hzb
      obtain ⟨hz1, hz2⟩ := hzb
      have HZ := Lib.hid hz
      rw [← hz]
      clear hz
      have a0 : wr.cell? ⟨w.heap.size, 0, none⟩ = some (.string s) := hbk.cell 0
      have a1 : wr.cell? ⟨w.heap.size, 1, none⟩ = some (.slice A m c) := hbk.cell 1
      by_cases hlt : k < m
      · obtain ⟨g, off, rfl, hg, hcell⟩ := hat (by omega)
        obtain ⟨b, hx, hmem⟩ := at_lt HN.out hlt
        obtain ⟨y, hyy⟩ : ∃ y, y = b.size := ⟨_, rfl⟩
        have hy := HB.out b hmem
        rw [← hyy] at hy
        obtain ⟨hy1, hy2⟩ := hy
        have HX := Lib.hid (sumTo_succ hx)
        have HYY := Lib.hid hyy
        have HC := Lib.hid (hcell k 1 b _ hx rfl)
        clear hx hcell hyy
        go_wp2_with fail
        refine (specMemoryOk_any HS.out (by omega) (HR.out.below (hbr.mono hB)) HW.out).mono ?_
        rintro e w1 ⟨rfl, hb1⟩
        rw [HO.out]
        have hB1 := hbr.trans (hb1.mono hbr.size)
        have hbk1 := hbk.step hb1
        have c1 : w1.cell? ⟨g, off + k * 2 + 1, none⟩ = some (.int .i64 y) := by
          obtain ⟨u, hu, hr⟩ := HC.out
          rw [hr.of_lit, ← HYY.out] at hu
          exact (hB1.cell (by show g < _; omega)).trans hu
        have a1' : w1.cell? ⟨w.heap.size, 1, none⟩ = some (.slice (some ⟨g, off, none⟩) m c) := hbk1.cell 1
        clear a0 a1 hbr hbk hb1
        go_wp2_with fail
        go_roundw
        case rel => exact ⟨k + 1, by omega, by go_num, by rw [HX.out, ← HZ.out, ← HYY.out], hB1, hbk1⟩
        case measure => simp [intOf]; omega
      · have hkn : k = m := by omega
        have hd : decide ((k : Int) < (m : Int)) = false := by simp; omega
        have HK := Lib.hid hkn
        clear hkn
        go_wp2_with fail
        go_ret
        exact ⟨ret_int (by rw [HF.out, HZ.out, HK.out, HN.out]), hbr⟩
end Go.Proofs.Ytlppngpafjfjeaa

namespace Go.Proofs.Ytlppngpafjfjeaa
open Go.RowKit
set_option linter.unusedVariables false
set_option linter.unusedSimpArgs false
set_option linter.unnecessarySimpa false

theorem owns_grown {w w' : World} {base sz n : Nat} {e : TypeId} {v : Value} {xs : List Value} {row : Option Nat} (h : w.ownsRow base e sz v n xs) (hg : w.grownBy w' row) (hne : ∀ g, v.ownBlock = some g → row ≠ some g) : w'.ownsRow base e sz v n xs := by
  have hl := h.lt
  obtain ⟨h1, h2⟩ := h
  refine ⟨h1, ?_⟩
  rcases h2 with h2 | ⟨g, cap, cur, hv, hbb, hh, hr⟩
  · exact .inl h2
  · have hgv : v.ownBlock = some g := by rw [hv]; rfl
    exact .inr ⟨g, cap, cur, hv, hbb, (hg.block g (hl g hgv).2 (fun e => hne g hgv e.symm)).trans hh, hr⟩
/-- where the walk stands: the source, the result's box, the memory's box, the row of what is taken -/
structure MB (w W : World) (q K pr pm : Nat) (s : ByteArray) (fv : Value) (taken : List Block) (tv : Value) : Prop where
  src : Src W q K
  res : Blk W pr 29 #[.string ⟨#[]⟩, .slice none 0 0]
  box : Blk W pm 29 #[.string s, fv]
  row : W.ownsRow (pm + 1) 49 2 tv taken.length (bvals taken)
  keep : Keep q (q + 1) w W
  lo : w.heap.size ≤ pr
  lt : pr < pm
  qlt : q < w.heap.size
  wf : ∀ b ∈ taken, b.wf
/-- the memory: its row is its own -/
structure MO (W : World) (pr pm : Nat) (s : ByteArray) (fs : List Block) (tv fv : Value) : Prop where
  own : W.ownsRow (pr + 1) 49 2 fv fs.length (bvals fs)
  off : ∀ g, fv.ownBlock = some g → g ≠ pm ∧ tv.ownBlock ≠ some g
  ok : memOk s fs = true
section
variable {w W W' W1 : World} {q K K' pr pm : Nat} {s s' : ByteArray} {fs fs' taken t2 : List Block} {tv tv' fv fv' : Value}
theorem MB.more (h : MB w W q K pr pm s fv taken tv) (hk : K ≤ K') : MB w W q K' pr pm s fv taken tv := ⟨h.src.more hk, h.res, h.box, h.row, h.keep, h.lo, h.lt, h.qlt, h.wf⟩
theorem MB.step (h : MB w W q K pr pm s fv taken tv) (hb : Below W.heap.size W W') : MB w W' q K pr pm s fv taken tv :=
  ⟨h.src.step hb, h.res.step hb, h.box.step hb, owns_step h.row hb, h.keep.trans (Keep.of_below hb), h.lo, h.lt, h.qlt, h.wf⟩
theorem MO.step (h : MO W pr pm s fs tv fv) (hb : Below W.heap.size W W') : MO W' pr pm s fs tv fv := ⟨owns_step h.own hb, h.off, h.ok⟩
theorem MB.drawn (h : MB w W q K pr pm s fv taken tv) (hk : Keep q (q + 1) W W') (hs : Src W' q K') : MB w W' q K' pr pm s fv taken tv := by
  have h1 := h.lo
  have h2 := h.lt
  have h3 := h.qlt
  exact ⟨hs, (hk.block pr h.res.lt (.inr (by omega))).trans h.res, (hk.block pm h.box.lt (.inr (by omega))).trans h.box, owns_keep h.row hk (by omega), h.keep.trans hk, h.lo, h.lt, h.qlt, h.wf⟩
theorem MO.drawn (h : MO W pr pm s fs tv fv) (hk : Keep q (q + 1) W W') (hq : q ≤ pr) : MO W' pr pm s fs tv fv := ⟨owns_keep h.own hk (by omega), h.off, h.ok⟩
theorem MB.setm (h : MB w W q K pr pm s fv taken tv) (s' : ByteArray) (fv' : Value) : MB w ((W.setCell ⟨pm, 0, none⟩ (.string s')).setCell ⟨pm, 1, none⟩ fv') q K pr pm s' fv' taken tv := by
  have h1 := h.lo
  have h2 := h.lt
  have h3 := h.qlt
  refine ⟨(h.src.below ((Below.refl pm W).setCell (p := ⟨pm, 0, none⟩) (Nat.le_refl _) _) (by omega)).below ((Below.refl pm _).setCell (p := ⟨pm, 1, none⟩) (Nat.le_refl _) _) (by omega), ?_, ?_, ?_, ?_, h.lo, h.lt, h.qlt, h.wf⟩
  · exact (h.res.far (p := ⟨pm, 0, none⟩) (by show pr ≠ pm; omega) _).far (p := ⟨pm, 1, none⟩) (by show pr ≠ pm; omega) _
  · have := (h.box.set_ 0 (.string s')).set_ 1 fv'
    simpa using this
  · exact owns_far (owns_far h.row (p := ⟨pm, 0, none⟩) (by show pm < pm + 1; omega) _) (p := ⟨pm, 1, none⟩) (by show pm < pm + 1; omega) _
  · exact (h.keep.high (p := ⟨pm, 0, none⟩) (by show w.heap.size ≤ pm; omega) _).high (p := ⟨pm, 1, none⟩) (by show w.heap.size ≤ pm; omega) _
theorem MO.fresh (h : MB w W q K pr pm s fv taken tv) (hown : W'.ownsRow W.heap.size 49 2 fv' fs'.length (bvals fs')) (hok : memOk s' fs' = true) :
    MO ((W'.setCell ⟨pm, 0, none⟩ (.string s')).setCell ⟨pm, 1, none⟩ fv') pr pm s' fs' tv fv' := by
  have hp := h.box.lt
  have h2 := h.lt
  refine ⟨owns_mono2 (owns_far (owns_far hown (p := ⟨pm, 0, none⟩) hp _) (p := ⟨pm, 1, none⟩) hp _) (by omega), fun g e => ?_, hok⟩
  have h3 := (hown.lt g e).1
  exact ⟨by omega, fun e2 => by have := (h.row.lt g e2).2; omega⟩
theorem MB.anew (h : MB w W q K pr pm s fv taken tv) (hb : Below W.heap.size W W') (hrow : W'.ownsRow W.heap.size 49 2 tv' t2.length (bvals t2)) (hw : ∀ b ∈ t2, b.wf) : MB w W' q K pr pm s fv t2 tv' := by
  have S := h.step hb
  exact ⟨S.src, S.res, S.box, owns_mono2 hrow h.box.lt, S.keep, h.lo, h.lt, h.qlt, hw⟩
theorem MO.anew (h : MO W pr pm s fs tv fv) (hb : Below W.heap.size W W') (hrow : W'.ownsRow W.heap.size 49 2 tv' t2.length (bvals t2)) : MO W' pr pm s fs tv' fv :=
  ⟨owns_step h.own hb, fun g e => ⟨(h.off g e).1, fun e2 => by have h1 := (hrow.lt g e2).1; have h2 := (h.own.lt g e).2; omega⟩, h.ok⟩
theorem MB.push (h : MB w W q K pr pm s fv taken tv) (hb : Below W.heap.size W W1) (hg : W1.grownBy W' tv.ownBlock) (hrow : W'.ownsRow (pm + 1) 49 2 tv' t2.length (bvals t2)) (hw : ∀ b ∈ t2, b.wf) : MB w W' q K pr pm s fv t2 tv' := by
  have S := h.step hb
  have h1 := h.lo
  have h2 := h.lt
  have h3 := h.qlt
  have hpm : ∀ k, k ≤ pm → some k ≠ tv.ownBlock := fun k hk e => by have := (h.row.lt k e.symm).1; omega
  refine ⟨S.src.grown hg S.row (by omega) S.box.lt, (hg.block pr S.res.lt (hpm pr (by omega))).trans S.res, (hg.block pm S.box.lt (hpm pm (Nat.le_refl _))).trans S.box, hrow, S.keep.grown hg (fun k e => ?_), h.lo, h.lt, h.qlt, hw⟩
  have := (h.row.lt k e).1
  omega
theorem MO.push (h : MO W pr pm s fs tv fv) (hb : Below W.heap.size W W1) (hg : W1.grownBy W' tv.ownBlock) (hor : tv'.ownBlock = tv.ownBlock ∨ tv'.ownBlock = some W1.heap.size) : MO W' pr pm s fs tv' fv := by
  have S := h.step hb
  refine ⟨owns_grown S.own hg (fun g e => (h.off g e).2), fun g e => ⟨(h.off g e).1, fun e2 => ?_⟩, h.ok⟩
  rcases hor with h1 | h1
  · exact (h.off g e).2 (h1 ▸ e2)
  · rw [h1] at e2; injection e2 with e2; have h3 := (S.own.lt g e).2; omega
theorem MO.rep (h : MO W pr pm s fs tv fv) : Rep W W.heap.size (blocks fs) fv := by
  obtain ⟨F, h1, h2, h3⟩ := lv_blk h.own
  exact Hold.rep _ _ F h1 fun g hg => by have := h2.2 g hg; omega
theorem MO.cap (h : MO W pr pm s fs tv fv) : ∀ A n c, fv = .slice A n c → n ≤ c := by
  obtain ⟨F, h1, h2, h3⟩ := lv_blk h.own
  intro A n c e
  subst e
  exact hold_cap h1
theorem owns_set2 {e : TypeId} {base sz n : Nat} {v : Value} {xs : List Value} (h : W.ownsRow base e sz v n xs) {p : Addr} (hne : v.ownBlock ≠ some p.block) (u : Value) : (W.setCell p u).ownsRow base e sz v n xs := by
  obtain ⟨h1, h2⟩ := h
  refine ⟨h1, ?_⟩
  rcases h2 with h2 | ⟨g, cap, cur, rfl, hbb, hh, hr⟩
  · exact .inl h2
  · exact .inr ⟨g, cap, cur, rfl, hbb, (Below.heap_setCell W p u g (fun e => hne (by rw [← e]; rfl))).trans hh, hr⟩
theorem MB.far2 (h : MB w W q K pr pm s fv taken tv) {p : Nat} (hp : pm < p) (hne : tv.ownBlock ≠ some p) (u0 u1 : Value) : MB w ((W.setCell ⟨p, 0, none⟩ u0).setCell ⟨p, 1, none⟩ u1) q K pr pm s fv taken tv := by
  have h1 := h.lo
  have h2 := h.lt
  have h3 := h.qlt
  refine ⟨(h.src.below ((Below.refl p W).setCell (p := ⟨p, 0, none⟩) (Nat.le_refl _) _) (by omega)).below ((Below.refl p _).setCell (p := ⟨p, 1, none⟩) (Nat.le_refl _) _) (by omega), ?_, ?_, ?_, ?_, h.lo, h.lt, h.qlt, h.wf⟩
  · exact (h.res.far (p := ⟨p, 0, none⟩) (by show pr ≠ p; omega) _).far (p := ⟨p, 1, none⟩) (by show pr ≠ p; omega) _
  · exact (h.box.far (p := ⟨p, 0, none⟩) (by show pm ≠ p; omega) _).far (p := ⟨p, 1, none⟩) (by show pm ≠ p; omega) _
  · exact owns_set2 (owns_set2 h.row (p := ⟨p, 0, none⟩) hne _) (p := ⟨p, 1, none⟩) hne _
  · exact (h.keep.high (p := ⟨p, 0, none⟩) (by show w.heap.size ≤ p; omega) _).high (p := ⟨p, 1, none⟩) (by show w.heap.size ≤ p; omega) _
theorem MO.far2 (h : MO W pr pm s fs tv fv) {p : Nat} (hne : fv.ownBlock ≠ some p) (u0 u1 : Value) : MO ((W.setCell ⟨p, 0, none⟩ u0).setCell ⟨p, 1, none⟩ u1) pr pm s fs tv fv :=
  ⟨owns_set2 (owns_set2 h.own (p := ⟨p, 0, none⟩) hne _) (p := ⟨p, 1, none⟩) hne _, h.off, h.ok⟩
/-- a memory that l10Alloc made: its row lies above the memory's box -/
def LvA (W : World) (pm : Nat) (fs : List Block) (v : Value) : Prop := ∃ lo hi, pm < lo ∧ Lv W lo hi (blocks fs) v
theorem LvA.step {v : Value} (h : LvA W pm fs v) (hb : Below W.heap.size W W') : LvA W' pm fs v := by
  obtain ⟨lo, hi, h1, h2⟩ := h
  exact ⟨lo, hi, h1, h2.step hb⟩
theorem LvA.setm {v : Value} (h : LvA W pm fs v) (u0 u1 : Value) : LvA ((W.setCell ⟨pm, 0, none⟩ u0).setCell ⟨pm, 1, none⟩ u1) pm fs v := by
  obtain ⟨lo, hi, h1, h2⟩ := h
  exact ⟨lo, hi, h1, (h2.setCell (p := ⟨pm, 0, none⟩) (.inl h1) _).setCell (p := ⟨pm, 1, none⟩) (.inl h1) _⟩
theorem LvA.drawn {v : Value} (h : LvA W pm fs v) (hk : Keep q (q + 1) W W') (hq : q ≤ pm) : LvA W' pm fs v := by
  obtain ⟨lo, hi, h1, h2⟩ := h
  exact ⟨lo, hi, h1, h2.kept hk (.inr (by omega))⟩
theorem LvA.rep {v : Value} (h : LvA W pm fs v) : Rep W W.heap.size (blocks fs) v := by
  obtain ⟨lo, hi, h1, h2⟩ := h
  exact h2.is
end
end Go.Proofs.Ytlppngpafjfjeaa
