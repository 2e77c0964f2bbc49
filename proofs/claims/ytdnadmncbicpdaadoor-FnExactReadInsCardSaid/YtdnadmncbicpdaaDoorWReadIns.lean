/-
  FnExactReadIns: the law's walk (by program: lawgen2.py).
-/
import Derived.Test.YtdnadmncbicpdaaDoorArg
import Derived.Test.YtdnadmncbicpdaaDoorSz
import Derived.Test.YtdnadmncbicpdaaDoorTo
import Derived.Test.YtdnadmncbicpdaaDoorEq
import Derived.Test.YtdnadmncbicpdaaDoorDcE
namespace Go.Proofs.YtdnadmncbicpdaaDoor
open Go.RowKit
set_option linter.unusedVariables false
set_option linter.unusedSimpArgs false
set_option linter.unnecessarySimpa false
set_option maxRecDepth 100000

set_option maxHeartbeats 6400000 in
theorem walk_FnExactReadIns (w : World) (hT : TabR w) (s : ByteArray) (h_s : s.size ≤ maxLen) :
    Calls Tryd.prog 3 #[.string s] w fun e w' => e = .returned (.bool true) ∧ Below w.heap.size w w' := by
  unfold maxLen at h_s
  by_cases hs_s : s.size ≤ 1048576
  case neg =>
    go_enter Tryd.func3, Tryd.ntmps3
    go_wp2_with fail
    go_ret
    exact ⟨rfl, Below.refl _ _⟩
  replace h_s := hs_s
  clear hs_s
  have SP := specReadIns_ok  s h_s
  have IM := implReadIns_ok  s h_s
  obtain ⟨rr, hrr⟩ : ∃ r : Ins, r = (rdP s).1 := ⟨_, rfl⟩
  rw [← hrr] at SP IM
  clear hrr
  obtain ⟨r_op, r_a⟩ := rr
  obtain ⟨r1, hrr⟩ : ∃ r : Bool, r = (rdP s).2 := ⟨_, rfl⟩
  rw [← hrr] at SP IM
  clear hrr
  have hne1 : (r1 != r1) = false := by simp
  have SP' := Lib.hid SP
  have IM' := Lib.hid IM
  clear SP IM
  go_enter Tryd.func3, Tryd.ntmps3
  go_wp2_with fail
  obtain ⟨w0, hw0⟩ : ∃ W, W = w := ⟨_, rfl⟩
  rw [← hw0]
  have hB0 : Below w.heap.size w w0 := by rw [hw0]; exact Below.refl _ _
  clear hw0
  have hs0 := hB0.size
  refine (SP'.out w0.heap.size  _ (Nat.le_refl _) (hT.below hB0)).mono ?_
  rintro e w1 ⟨vw, rfl, Gw, hb1⟩
  have hs1 := hb1.size
  have hB1 := hB0.trans (hb1.mono hB0.size)
  have Kw := Gw
  obtain rfl := Ins.lopen Kw
  obtain ⟨w2, hw2⟩ : ∃ W, W = (w1.alloc (.cells #[.int .i64 r_op, .int .i64 r_a] 23)) := ⟨_, rfl⟩
  have hb2 : Below w1.heap.size w1 w2 := by rw [hw2]; exact (Below.refl _ _).alloc (Nat.le_refl _) _
  have bW : Blk w2 w1.heap.size 23 #[.int .i64 r_op, .int .i64 r_a] := by rw [hw2]; exact Blk.new w1 _ _
  have HW2 := Lib.hid hw2
  clear hw2
  have lb2 := bW.lt
  have hs2 := hb2.size
  have hB2 := hB1.trans (hb2.mono hB1.size)
  replace Gw := Gw.step hb2
  have c1_bW0 : (w1.alloc (.cells #[.int .i64 r_op, .int .i64 r_a] 23)).cell? ⟨w1.heap.size, 0, none⟩ = some (.int .i64 r_op) := by rw [← HW2.out]; exact bW.cell 0
  have c2_bW1 : (w1.alloc (.cells #[.int .i64 r_op, .int .i64 r_a] 23)).cell? ⟨w1.heap.size, 1, none⟩ = some (.int .i64 r_a) := by rw [← HW2.out]; exact bW.cell 1
  go_wp2_with fail
  rw [← HW2.out]
  clear c1_bW0 c2_bW1
  clear HW2
  refine (IM'.out w2.heap.size  _ (Nat.le_refl _) (hT.below hB2)).mono ?_
  rintro e w3 ⟨vg, rfl, Gg, hb3⟩
  have hs3 := hb3.size
  have hB3 := hB2.trans (hb3.mono hB2.size)
  replace Gw := Gw.step hb3
  replace bW := bW.step hb3
  have Kg := Gg
  obtain rfl := Ins.lopen Kg
  obtain ⟨w4, hw4⟩ : ∃ W, W = (w3.alloc (.cells #[.int .i64 r_op, .int .i64 r_a] 23)) := ⟨_, rfl⟩
  have hb4 : Below w3.heap.size w3 w4 := by rw [hw4]; exact (Below.refl _ _).alloc (Nat.le_refl _) _
  have bG : Blk w4 w3.heap.size 23 #[.int .i64 r_op, .int .i64 r_a] := by rw [hw4]; exact Blk.new w3 _ _
  have HW4 := Lib.hid hw4
  clear hw4
  have lb4 := bG.lt
  have hs4 := hb4.size
  have hB4 := hB3.trans (hb4.mono hB3.size)
  replace Gw := Gw.step hb4
  replace Gg := Gg.step hb4
  replace bW := bW.step hb4
  have c3_bW0 : (w3.alloc (.cells #[.int .i64 r_op, .int .i64 r_a] 23)).cell? ⟨w1.heap.size, 0, none⟩ = some (.int .i64 r_op) := by rw [← HW4.out]; exact bW.cell 0
  have c4_bW1 : (w3.alloc (.cells #[.int .i64 r_op, .int .i64 r_a] 23)).cell? ⟨w1.heap.size, 1, none⟩ = some (.int .i64 r_a) := by rw [← HW4.out]; exact bW.cell 1
  have c5_bG0 : (w3.alloc (.cells #[.int .i64 r_op, .int .i64 r_a] 23)).cell? ⟨w3.heap.size, 0, none⟩ = some (.int .i64 r_op) := by rw [← HW4.out]; exact bG.cell 0
  have c6_bG1 : (w3.alloc (.cells #[.int .i64 r_op, .int .i64 r_a] 23)).cell? ⟨w3.heap.size, 1, none⟩ = some (.int .i64 r_a) := by rw [← HW4.out]; exact bG.cell 1
  go_wp2_with fail
  rw [← HW4.out]
  clear c3_bW0 c4_bW1 c5_bG0 c6_bG1
  clear HW4
  refine (eqIns_all (⟨r_op, r_a⟩ : Ins) w4.heap.size _ _ _ (Nat.le_refl _) Gg.is Gw.is).mono ?_
  rintro e w5 ⟨rfl, hb5⟩
  have hs5 := hb5.size
  have hB5 := hB4.trans (hb5.mono hB4.size)
  replace Gw := Gw.step hb5
  replace Gg := Gg.step hb5
  replace bW := bW.step hb5
  replace bG := bG.step hb5
  go_wp2_with fail
  go_ret
  exact ⟨rfl, hB5⟩

end Go.Proofs.YtdnadmncbicpdaaDoor
