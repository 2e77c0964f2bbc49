/-
  FnExactSameMemory: the law's walk.
-/
import Derived.Test.YtlppngpafjfjeaaSame
import Derived.Deep.RegionHeld3
namespace Go.Proofs.Ytlppngpafjfjeaa
open Go.RowKit
set_option linter.unusedVariables false

set_option maxHeartbeats 3200000 in
theorem walk_FnExactSameMemory (w : World) (v0 : Value) (h : ArgMem w v0) (v1 : Value) (h' : ArgMem w v1) :
    Calls Try.prog 3 #[v0, v1] w fun e w' => e = .returned (.bool true) ∧ Below w.heap.size w w' := by
  obtain ⟨s, u, bs, rfl, hs, hr, hw⟩ := h
  obtain ⟨t, u', cs, rfl, hs', hr', hw'⟩ := h'
  obtain ⟨A, n, c, rfl⟩ := hr.form
  obtain ⟨A', n', c', rfl⟩ := hr'.form
  have HS := Lib.hid hs
  have HR := Lib.hid hr
  have HS' := Lib.hid hs'
  have HR' := Lib.hid hr'
  clear hs hw hr hs' hw' hr'
  obtain ⟨w0, hw0⟩ : ∃ w0, w0 = (w.alloc (.cells #[.string s, .slice A n c] 24)).alloc (.cells #[.string t, .slice A' n' c'] 24) := ⟨_, rfl⟩
  have bA : Blk w0 w.heap.size 24 #[.string s, .slice A n c] := by rw [hw0]; exact (Blk.new w _ _).alloc _
  have bC : Blk w0 (w.heap.size + 1) 24 #[.string t, .slice A' n' c'] := by rw [hw0]; have := Blk.new (w.alloc (.cells #[.string s, .slice A n c] 24)) 24 #[.string t, .slice A' n' c']; simpa using this
  have hB0 : Below w.heap.size w w0 := by rw [hw0]; exact ((Below.refl _ _).alloc (Nat.le_refl _) _).alloc (by simp) _
  have HW0 := Lib.hid hw0
  clear hw0
  have hs0 : w.heap.size ≤ w0.heap.size := hB0.size
  by_cases ht : s.size + bs.length ≤ 1048576
  · have e1 := Lib.hid (szLeft_yes (n := s.size + bs.length) (left := 1048576) (by omega))
    have hp : (0 : Int) ≤ 1048576 - ((s.size : Int) + (bs.length : Int)) := by omega
    have hbl : bs.length ≤ 1048576 := by omega
    have HC1 := Lib.hid (fun W (hbW : Below w.heap.size w W) => szMemory_any (w := W) (B := w.heap.size) (1048576 - ((s.size : Int) + (bs.length : Int))) hp (by omega) HS'.out hbW.size (HR'.out.below hbW))
    by_cases ht' : t.size + cs.length ≤ 1048576 - (s.size + bs.length)
    · have e2 := Lib.hid (szLeft_yes (n := t.size + cs.length) (left := 1048576 - ((s.size : Int) + (bs.length : Int))) (by omega))
      have hp2 : (0 : Int) ≤ 1048576 - ((s.size : Int) + (bs.length : Int)) - ((t.size : Int) + (cs.length : Int)) := by omega
      have hcl : cs.length ≤ 1048576 := by omega
      go_enter Try.func3, Try.ntmps3
      go_wp2_with fail
      rw [← HW0.out]
      refine (szMemory_any (B := w.heap.size) 1048576 (by omega) (by omega) HS.out hs0 (HR.out.below hB0)).mono ?_
      rintro e w1 ⟨rfl, hb1⟩
      rw [e1.out]
      have hB1 := hB0.trans (hb1.mono hs0)
      replace bA := bA.step hb1
      replace bC := bC.step hb1
      have c0 : w1.cell? ⟨w.heap.size + 1, 0, none⟩ = some (.string t) := bC.cell 0
      have c1 : w1.cell? ⟨w.heap.size + 1, 1, none⟩ = some (.slice A' n' c') := bC.cell 1
      go_wp2_with fail
      refine (HC1.out _ hB1).mono ?_
      rintro e w2 ⟨rfl, hb2⟩
      rw [e2.out]
      have hB2 := hB1.trans (hb2.mono hB1.size)
      replace bA := bA.step hb2
      replace bC := bC.step hb2
      clear c0 c1
      have a0 : w2.cell? ⟨w.heap.size, 0, none⟩ = some (.string s) := bA.cell 0
      have a1 : w2.cell? ⟨w.heap.size, 1, none⟩ = some (.slice A n c) := bA.cell 1
      have c0 : w2.cell? ⟨w.heap.size + 1, 0, none⟩ = some (.string t) := bC.cell 0
      have c1 : w2.cell? ⟨w.heap.size + 1, 1, none⟩ = some (.slice A' n' c') := bC.cell 1
      have hA := bA.lt
      have hC := bC.lt
      go_wp2_with fail
      go_region_held3 (fun w' => w'.cell? ⟨w.heap.size, 0, none⟩ = some (.string s) ∧ w'.cell? ⟨w.heap.size, 1, none⟩ = some (.slice A n c) ∧ w'.cell? ⟨w.heap.size + 1, 0, none⟩ = some (.string t) ∧ w'.cell? ⟨w.heap.size + 1, 1, none⟩ = some (.slice A' n' c'))
        (first | go_keep | exact ⟨(hb23.cell (p := ⟨w.heap.size, 0, none⟩) hA).trans a0, (hb23.cell (p := ⟨w.heap.size, 1, none⟩) hA).trans a1, (hb23.cell (p := ⟨w.heap.size + 1, 0, none⟩) hC).trans c0, (hb23.cell (p := ⟨w.heap.size + 1, 1, none⟩) hC).trans c1⟩ | exact ⟨(hb24.cell (p := ⟨w.heap.size, 0, none⟩) hA).trans a0, (hb24.cell (p := ⟨w.heap.size, 1, none⟩) hA).trans a1, (hb24.cell (p := ⟨w.heap.size + 1, 0, none⟩) hC).trans c0, (hb24.cell (p := ⟨w.heap.size + 1, 1, none⟩) hC).trans c1⟩ | exact ⟨(hb25.cell (p := ⟨w.heap.size, 0, none⟩) hA).trans a0, (hb25.cell (p := ⟨w.heap.size, 1, none⟩) hA).trans a1, (hb25.cell (p := ⟨w.heap.size + 1, 0, none⟩) hC).trans c0, (hb25.cell (p := ⟨w.heap.size + 1, 1, none⟩) hC).trans c1⟩)
        (first | (go_at_call_of 14 A; refine (toMemory_any (B := w.heap.size) (by exact hB2.size) hbl (by exact HR.out.below hB2.drew)).mono ?_; rintro e w3 ⟨u3, rfl, L3, hb3⟩; obtain ⟨A3, n3, c3, rfl⟩ := L3.form; have hb23 : Below w2.heap.size w2 w3 := (Below.refl _ _).drew.trans hb3; have hB3 := hB2.trans (hb23.mono hB2.size)) | (go_at_call_of 14 A'; refine (toMemory_any (B := w.heap.size) (by exact hB3.size) hcl (by exact HR'.out.below hB3)).mono ?_; rintro e w4 ⟨u4, rfl, L4, hb4⟩; obtain ⟨A4, n4, c4, rfl⟩ := L4.form; have hb24 := hb23.trans (hb4.mono hb23.size); have L34 := L3.step hb4) | (go_at_call 13; refine (specSame_any (B := w4.heap.size) (Nat.le_refl _) (by exact L34.is) (by exact L4.is)).mono ?_; rintro e w5 ⟨rfl, hb5⟩; have hb25 := hb24.trans (hb5.mono hb24.size)))
      have hB5 := hB2.trans (hb25.mono hB2.size)
      have bA5 := bA.step hb25
      have bC5 := bC.step hb25
      clear bA bC a0 a1 c0 c1 L3 L34 L4 hA hC
      have a0 : w5.cell? ⟨w.heap.size, 0, none⟩ = some (.string s) := bA5.cell 0
      have a1 : w5.cell? ⟨w.heap.size, 1, none⟩ = some (.slice A n c) := bA5.cell 1
      go_wp2_with fail
      refine (toMemory_any (B := w.heap.size) hB5.size hbl (HR.out.below hB5)).mono ?_
      rintro e w6 ⟨u6, rfl, L6, hb6⟩
      obtain ⟨A6, n6, c6, rfl⟩ := L6.form
      have hB6 := hB5.trans (hb6.mono hB5.size)
      replace bA := bA5.step hb6
      replace bC := bC5.step hb6
      clear a0 a1 bA5 bC5
      obtain ⟨w7, hw7⟩ : ∃ w7, w7 = w6.alloc (.cells #[.string s, .slice A6 n6 c6] 29) := ⟨_, rfl⟩
      have hb7 : Below w6.heap.size w6 w7 := by rw [hw7]; exact (Below.refl _ _).alloc (Nat.le_refl _) _
      have bX : Blk w7 w6.heap.size 29 #[.string s, .slice A6 n6 c6] := by rw [hw7]; exact Blk.new w6 _ _
      have HW7 := Lib.hid hw7
      clear hw7
      have hB7 := hB6.trans (hb7.mono hB6.size)
      replace bA := bA.step hb7
      replace bC := bC.step hb7
      replace L6 := L6.step hb7
      have c0 : (w6.alloc (.cells #[.string s, .slice A6 n6 c6] 29)).cell? ⟨w.heap.size + 1, 0, none⟩ = some (.string t) := by rw [← HW7.out]; exact bC.cell 0
      have c1 : (w6.alloc (.cells #[.string s, .slice A6 n6 c6] 29)).cell? ⟨w.heap.size + 1, 1, none⟩ = some (.slice A' n' c') := by rw [← HW7.out]; exact bC.cell 1
      go_wp2_with fail
      rw [← HW7.out]
      clear c0 c1
      refine (toMemory_any (B := w.heap.size) hB7.size hcl (HR'.out.below hB7)).mono ?_
      rintro e w8 ⟨u8, rfl, L8, hb8⟩
      obtain ⟨A8, n8, c8, rfl⟩ := L8.form
      have hB8 := hB7.trans (hb8.mono hB7.size)
      replace bA := bA.step hb8
      replace bC := bC.step hb8
      replace bX := bX.step hb8
      replace L6 := L6.step hb8
      obtain ⟨w9, hw9⟩ : ∃ w9, w9 = w8.alloc (.cells #[.string t, .slice A8 n8 c8] 29) := ⟨_, rfl⟩
      have hb9 : Below w8.heap.size w8 w9 := by rw [hw9]; exact (Below.refl _ _).alloc (Nat.le_refl _) _
      have bY : Blk w9 w8.heap.size 29 #[.string t, .slice A8 n8 c8] := by rw [hw9]; exact Blk.new w8 _ _
      have HW9 := Lib.hid hw9
      clear hw9
      have hB9 := hB8.trans (hb9.mono hB8.size)
      replace bA := bA.step hb9
      replace bC := bC.step hb9
      replace bX := bX.step hb9
      replace L6 := L6.step hb9
      replace L8 := L8.step hb9
      have x0 : (w8.alloc (.cells #[.string t, .slice A8 n8 c8] 29)).cell? ⟨w6.heap.size, 0, none⟩ = some (.string s) := by rw [← HW9.out]; exact bX.cell 0
      have x1 : (w8.alloc (.cells #[.string t, .slice A8 n8 c8] 29)).cell? ⟨w6.heap.size, 1, none⟩ = some (.slice A6 n6 c6) := by rw [← HW9.out]; exact bX.cell 1
      go_wp2_with fail
      rw [← HW9.out]
      clear x0 x1
      refine (implSame_any (B := w9.heap.size) (Nat.le_refl _) L6.is L8.is).mono ?_
      rintro e w10 ⟨rfl, hb10⟩
      have hB10 := hB9.trans (hb10.mono hB9.size)
      replace bA := bA.step hb10
      replace bC := bC.step hb10
      replace bX := bX.step hb10
      replace bY := bY.step hb10
      replace L6 := L6.step hb10
      replace L8 := L8.step hb10
      have hA := bA.lt
      have hX := bX.lt
      have a0 : w10.cell? ⟨w.heap.size, 0, none⟩ = some (.string s) := bA.cell 0
      have a1 : w10.cell? ⟨w.heap.size, 1, none⟩ = some (.slice A n c) := bA.cell 1
      have x0 : w10.cell? ⟨w6.heap.size, 0, none⟩ = some (.string s) := bX.cell 0
      have x1 : w10.cell? ⟨w6.heap.size, 1, none⟩ = some (.slice A6 n6 c6) := bX.cell 1
      go_wp2_with fail
      go_region_held3 (fun w' => w'.cell? ⟨w.heap.size, 0, none⟩ = some (.string s) ∧ w'.cell? ⟨w.heap.size, 1, none⟩ = some (.slice A n c) ∧ w'.cell? ⟨w6.heap.size, 0, none⟩ = some (.string s) ∧ w'.cell? ⟨w6.heap.size, 1, none⟩ = some (.slice A6 n6 c6))
        (first | go_keep | exact ⟨(hb1011.cell (p := ⟨w.heap.size, 0, none⟩) hA).trans a0, (hb1011.cell (p := ⟨w.heap.size, 1, none⟩) hA).trans a1, (hb1011.cell (p := ⟨w6.heap.size, 0, none⟩) hX).trans x0, (hb1011.cell (p := ⟨w6.heap.size, 1, none⟩) hX).trans x1⟩ | exact ⟨(hb1012.cell (p := ⟨w.heap.size, 0, none⟩) hA).trans a0, (hb1012.cell (p := ⟨w.heap.size, 1, none⟩) hA).trans a1, (hb1012.cell (p := ⟨w6.heap.size, 0, none⟩) hX).trans x0, (hb1012.cell (p := ⟨w6.heap.size, 1, none⟩) hX).trans x1⟩)
        (first | (go_at_call 14; refine (toMemory_any (B := w.heap.size) (by exact hB10.size) hbl (by exact HR.out.below hB10.drew)).mono ?_; rintro e w11 ⟨u11, rfl, L11, hb11⟩; obtain ⟨A11, n11, c11, rfl⟩ := L11.form; have hb1011 : Below w10.heap.size w10 w11 := (Below.refl _ _).drew.trans hb11; have L611 := L6.step hb1011) | (go_at_call 16; refine (eqMemory_any (B := w11.heap.size) (Nat.le_refl _) (by exact L611.is) (by exact L11.is)).mono ?_; rintro e w12 ⟨rfl, hb12⟩; have hb1012 := hb1011.trans (hb12.mono hb1011.size)))
      have hB12 := hB10.trans (hb1012.mono hB10.size)
      replace bA := bA.step hb1012
      replace bC := bC.step hb1012
      replace bY := bY.step hb1012
      replace L8 := L8.step hb1012
      clear a0 a1 x0 x1 bX L6 L611 L11 hA hX
      have hC := bC.lt
      have hY := bY.lt
      have c0 : w12.cell? ⟨w.heap.size + 1, 0, none⟩ = some (.string t) := bC.cell 0
      have c1 : w12.cell? ⟨w.heap.size + 1, 1, none⟩ = some (.slice A' n' c') := bC.cell 1
      have y0 : w12.cell? ⟨w8.heap.size, 0, none⟩ = some (.string t) := bY.cell 0
      have y1 : w12.cell? ⟨w8.heap.size, 1, none⟩ = some (.slice A8 n8 c8) := bY.cell 1
      go_wp2_with fail
      go_region_held3 (fun w' => w'.cell? ⟨w.heap.size + 1, 0, none⟩ = some (.string t) ∧ w'.cell? ⟨w.heap.size + 1, 1, none⟩ = some (.slice A' n' c') ∧ w'.cell? ⟨w8.heap.size, 0, none⟩ = some (.string t) ∧ w'.cell? ⟨w8.heap.size, 1, none⟩ = some (.slice A8 n8 c8))
        (first | go_keep | exact ⟨(hb1213.cell (p := ⟨w.heap.size + 1, 0, none⟩) hC).trans c0, (hb1213.cell (p := ⟨w.heap.size + 1, 1, none⟩) hC).trans c1, (hb1213.cell (p := ⟨w8.heap.size, 0, none⟩) hY).trans y0, (hb1213.cell (p := ⟨w8.heap.size, 1, none⟩) hY).trans y1⟩ | exact ⟨(hb1214.cell (p := ⟨w.heap.size + 1, 0, none⟩) hC).trans c0, (hb1214.cell (p := ⟨w.heap.size + 1, 1, none⟩) hC).trans c1, (hb1214.cell (p := ⟨w8.heap.size, 0, none⟩) hY).trans y0, (hb1214.cell (p := ⟨w8.heap.size, 1, none⟩) hY).trans y1⟩)
        (first | (go_at_call 14; refine (toMemory_any (B := w.heap.size) (by exact hB12.size) hcl (by exact HR'.out.below hB12.drew)).mono ?_; rintro e w13 ⟨u13, rfl, L13, hb13⟩; obtain ⟨A13, n13, c13, rfl⟩ := L13.form; have hb1213 : Below w12.heap.size w12 w13 := (Below.refl _ _).drew.trans hb13; have L813 := L8.step hb1213) | (go_at_call 16; refine (eqMemory_any (B := w13.heap.size) (Nat.le_refl _) (by exact L813.is) (by exact L13.is)).mono ?_; rintro e w14 ⟨rfl, hb14⟩; have hb1214 := hb1213.trans (hb14.mono hb1213.size)))
      have hB14 := hB12.trans (hb1214.mono hB12.size)
      clear c0 c1 y0 y1 bA bC bY
      go_wp2_with fail
      go_ret
      exact ⟨rfl, hB14⟩
    · have e2 := Lib.hid (szLeft_no (n := t.size + cs.length) (left := 1048576 - ((s.size : Int) + (bs.length : Int))) (by omega))
      go_enter Try.func3, Try.ntmps3
      go_wp2_with fail
      rw [← HW0.out]
      refine (szMemory_any (B := w.heap.size) 1048576 (by omega) (by omega) HS.out hs0 (HR.out.below hB0)).mono ?_
      rintro e w1 ⟨rfl, hb1⟩
      rw [e1.out]
      have hB1 := hB0.trans (hb1.mono hs0)
      replace bC := bC.step hb1
      have c0 : w1.cell? ⟨w.heap.size + 1, 0, none⟩ = some (.string t) := bC.cell 0
      have c1 : w1.cell? ⟨w.heap.size + 1, 1, none⟩ = some (.slice A' n' c') := bC.cell 1
      go_wp2_with fail
      refine (HC1.out _ hB1).mono ?_
      rintro e w2 ⟨rfl, hb2⟩
      rw [e2.out]
      have hB2 := hB1.trans (hb2.mono hB1.size)
      clear bA bC c0 c1
      go_wp2_with fail
      go_ret
      exact ⟨rfl, hB2⟩
  · have e1 := Lib.hid (szLeft_no (n := s.size + bs.length) (left := 1048576) (by omega))
    go_enter Try.func3, Try.ntmps3
    go_wp2_with fail
    rw [← HW0.out]
    refine (szMemory_any (B := w.heap.size) 1048576 (by omega) (by omega) HS.out hs0 (HR.out.below hB0)).mono ?_
    rintro e w1 ⟨rfl, hb1⟩
    rw [e1.out]
    have hB1 := hB0.trans (hb1.mono hs0)
    clear bA bC
    go_wp2_with fail
    go_ret
    exact ⟨rfl, hB1⟩
end Go.Proofs.Ytlppngpafjfjeaa
