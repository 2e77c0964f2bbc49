/-
  FnExactFreeBytes: the law's walk.
-/
import Derived.Test.YtlppngpafjfjeaaFree
namespace Go.Proofs.Ytlppngpafjfjeaa
open Go.RowKit
set_option linter.unusedVariables false

set_option maxHeartbeats 1600000 in
theorem walk_FnExactFreeBytes (w : World) (v0 : Value) (h : ArgMem w v0) :
    Calls Try.prog 5 #[v0] w fun e w' => e = .returned (.bool true) ∧ Below w.heap.size w w' := by
  obtain ⟨s, u, bs, rfl, hs, hr, hw⟩ := h
  obtain ⟨A, n, c, rfl⟩ := hr.form
  have HS := Lib.hid hs
  have HW := Lib.hid hw
  have HR := Lib.hid hr
  clear hs hw hr
  by_cases ht : s.size + bs.length ≤ 1048576
  · have e1 := Lib.hid (szLeft_yes (n := s.size + bs.length) (left := 1048576) (by omega))
    have hp : (0 : Int) ≤ 1048576 - ((s.size : Int) + (bs.length : Int)) := by omega
    have hbl : bs.length ≤ 1048576 := by omega
    have hne : (freeB s bs != freeB s bs) = false := by simp
    go_enter Try.func5, Try.ntmps5
    go_wp2_with fail
    obtain ⟨w0, hw0⟩ : ∃ w0, w0 = w.alloc (.cells #[.string s, .slice A n c] 24) := ⟨_, rfl⟩
    rw [← hw0]
    have bA : Blk w0 w.heap.size 24 #[.string s, .slice A n c] := by rw [hw0]; exact Blk.new w _ _
    have hB0 : Below w.heap.size w w0 := by rw [hw0]; exact (Below.refl _ _).alloc (Nat.le_refl _) _
    have hs0 : w.heap.size ≤ w0.heap.size := hB0.size
    clear hw0
    -- the budget
    refine (szMemory_any (B := w.heap.size) 1048576 (by omega) (by omega) HS.out hs0 (HR.out.below hB0)).mono ?_
    rintro e w1 ⟨rfl, hb1⟩
    rw [e1.out]
    have hB1 := hB0.trans (hb1.mono hs0)
    have hs1 := hb1.size
    replace bA := bA.step hb1
    have a0 : w1.cell? ⟨w.heap.size, 0, none⟩ = some (.string s) := bA.cell 0
    have a1 : w1.cell? ⟨w.heap.size, 1, none⟩ = some (.slice A n c) := bA.cell 1
    go_wp2_with fail
    -- the reference's copy
    refine (toMemory_any (B := w.heap.size) hB1.size hbl (HR.out.below hB1)).mono ?_
    rintro e w2 ⟨u2, rfl, L2, hb2⟩
    obtain ⟨A2, n2, c2, rfl⟩ := L2.form
    have hB2 := hB1.trans (hb2.mono hB1.size)
    replace bA := bA.step hb2
    clear a0 a1
    go_wp2_with fail
    refine (specFree_any HS.out (Nat.le_refl _) L2.is HW.out).mono ?_
    rintro e w3 ⟨rfl, hb3⟩
    have hB3 := hB2.trans (hb3.mono hB2.size)
    replace bA := bA.step hb3
    have a0 : w3.cell? ⟨w.heap.size, 0, none⟩ = some (.string s) := bA.cell 0
    have a1 : w3.cell? ⟨w.heap.size, 1, none⟩ = some (.slice A n c) := bA.cell 1
    clear L2
    go_wp2_with fail
    -- the program's copy
    refine (toMemory_any (B := w.heap.size) hB3.size hbl (HR.out.below hB3)).mono ?_
    rintro e w4 ⟨u4, rfl, L4, hb4⟩
    obtain ⟨A4, n4, c4, rfl⟩ := L4.form
    have hB4 := hB3.trans (hb4.mono hB3.size)
    replace bA := bA.step hb4
    clear a0 a1
    go_wp2_with fail
    obtain ⟨w5, hw5⟩ : ∃ w5, w5 = w4.alloc (.cells #[.string s, .slice A4 n4 c4] 29) := ⟨_, rfl⟩
    rw [← hw5]
    have hb5 : Below w4.heap.size w4 w5 := by rw [hw5]; exact (Below.refl _ _).alloc (Nat.le_refl _) _
    have bX : Blk w5 w4.heap.size 29 #[.string s, .slice A4 n4 c4] := by rw [hw5]; exact Blk.new w4 _ _
    have hB5 := hB4.trans (hb5.mono hB4.size)
    replace bA := bA.step hb5
    replace L4 := L4.step hb5
    clear hw5
    refine (implFree_any HS.out (Nat.le_refl _) L4.is HW.out).mono ?_
    rintro e w6 ⟨rfl, hb6⟩
    have hB6 := hB5.trans (hb6.mono hB5.size)
    replace bA := bA.step hb6
    replace bX := bX.step hb6
    replace L4 := L4.step hb6
    go_wp2_with fail
    have a0 : w6.cell? ⟨w.heap.size, 0, none⟩ = some (.string s) := bA.cell 0
    have a1 : w6.cell? ⟨w.heap.size, 1, none⟩ = some (.slice A n c) := bA.cell 1
    have x0 : w6.cell? ⟨w4.heap.size, 0, none⟩ = some (.string s) := bX.cell 0
    have x1 : w6.cell? ⟨w4.heap.size, 1, none⟩ = some (.slice A4 n4 c4) := bX.cell 1
    have hA := bA.lt
    have hX := bX.lt
    go_region_held3 (fun w' => w'.cell? ⟨w.heap.size, 0, none⟩ = some (.string s) ∧ w'.cell? ⟨w.heap.size, 1, none⟩ = some (.slice A n c) ∧ w'.cell? ⟨w4.heap.size, 0, none⟩ = some (.string s) ∧ w'.cell? ⟨w4.heap.size, 1, none⟩ = some (.slice A4 n4 c4))
      (first | go_keep | exact ⟨(hb7.cell (p := ⟨w.heap.size, 0, none⟩) hA).trans a0, (hb7.cell (p := ⟨w.heap.size, 1, none⟩) hA).trans a1, (hb7.cell (p := ⟨w4.heap.size, 0, none⟩) hX).trans x0, (hb7.cell (p := ⟨w4.heap.size, 1, none⟩) hX).trans x1⟩ | exact ⟨(hb78.cell (p := ⟨w.heap.size, 0, none⟩) hA).trans a0, (hb78.cell (p := ⟨w.heap.size, 1, none⟩) hA).trans a1, (hb78.cell (p := ⟨w4.heap.size, 0, none⟩) hX).trans x0, (hb78.cell (p := ⟨w4.heap.size, 1, none⟩) hX).trans x1⟩)
      (first | (go_at_call 14; refine (toMemory_any (B := w.heap.size) (by exact hB6.size) hbl (by exact HR.out.below hB6.drew)).mono ?_; rintro e w7 ⟨u7, rfl, L7, hb7⟩; obtain ⟨A7, n7, c7, rfl⟩ := L7.form; have L47 := L4.step ((Below.refl w6.heap.size w6).drew.trans hb7)) | (go_at_call 16; refine (eqMemory_any (B := w7.heap.size) (Nat.le_refl _) (by exact L47.is) (by exact L7.is)).mono ?_; rintro e w8 ⟨rfl, hb8⟩; have hb78 : Below w6.heap.size w6 w8 := ((Below.refl _ _).drew.trans hb7).trans (hb8.mono hb7.size)))
    have hB8 := hB6.trans (hb78.mono hB6.size)
    clear bA bX L4 a0 a1 x0 x1
    go_wp2_with fail
    go_ret
    exact ⟨rfl, hB8⟩
  · have e1 := Lib.hid (szLeft_no (n := s.size + bs.length) (left := 1048576) (by omega))
    go_enter Try.func5, Try.ntmps5
    go_wp2_with fail
    have hB0 : Below w.heap.size w (w.alloc (.cells #[.string s, .slice A n c] 24)) := (Below.refl _ _).alloc (Nat.le_refl _) _
    refine (szMemory_any (B := w.heap.size) 1048576 (by omega) (by omega) HS.out (by simp) (HR.out.below hB0)).mono ?_
    rintro e w1 ⟨rfl, hb1⟩
    rw [e1.out]
    go_wp2_with fail
    go_ret
    exact ⟨rfl, below_box hb1⟩
end Go.Proofs.Ytlppngpafjfjeaa
