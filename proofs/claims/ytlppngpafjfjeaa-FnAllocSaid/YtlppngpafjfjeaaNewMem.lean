/-
  NewMemory.
-/
import Derived.Test.YtlppngpafjfjeaaStore
namespace Go.Proofs.Ytlppngpafjfjeaa
open Go.RowKit
set_option linter.unusedVariables false
set_option linter.unusedSimpArgs false
set_option linter.unnecessarySimpa false
set_option maxRecDepth 16000

def memNew (n : Int) : Memory × Int := if 0 ≤ n ∧ n ≤ 4096 then (⟨zerosB n.toNat, freeN n.toNat⟩, 0) else (⟨⟨#[]⟩, []⟩, 2)
theorem memNew_no {n : Int} (h : ¬ (0 ≤ n ∧ n ≤ 4096)) : memNew n = (⟨⟨#[]⟩, []⟩, 2) := if_neg h
theorem memNew_yes {m : Nat} (h : m ≤ 4096) : memNew (m : Int) = (⟨zerosB m, freeN m⟩, 0) := by rw [memNew, if_pos (by omega)]; rfl
theorem memNew_cnt (n : Int) : rowsCnt (Memory.pd (memNew n).1) ≤ 1099511627775 := by
  have h : ∀ b : ByteArray, rowsCnt (Memory.pd ⟨b, []⟩) ≤ 1099511627775 := fun b => by rw [Memory.pd_mk]; simp [rowsCnt, PD.cnt, PD.cntL]
  have h2 : ∀ (b : ByteArray) (x : Block), rowsCnt (Memory.pd ⟨b, [x]⟩) ≤ 1099511627775 := fun b x => by rw [Memory.pd_mk]; simp [rowsCnt, PD.cnt, PD.cntL, Block.pd]
  rw [memNew]
  split
  · rw [freeN]
    split
    · exact h2 _ _
    · exact h _
  · exact h _
def NewOk (f : Nat) : Prop := ∀ (n : Int), (Lit.int .i64 n).wf = true → ∀ (B : Nat) (w : World), B ≤ w.heap.size →
    Calls Try.prog f #[.int .i64 n] w fun e w' => ∃ us, e = .returned (.tuple #[.agg us.toArray, .int .i64 (memNew n).2]) ∧ LvC w' w.heap.size w'.heap.size (Memory.pd (memNew n).1) us ∧ Below w.heap.size w w'
theorem hold_keep2 {w : World} {bs : List Block} {fv : Value} {q : Nat} {u0 u1 : Value} (h : Lv w (q + 1) w.heap.size (blocks bs) fv) : Lv ((w.setCell ⟨q, 0, none⟩ u0).setCell ⟨q, 1, none⟩ u1) q ((w.setCell ⟨q, 0, none⟩ u0).setCell ⟨q, 1, none⟩ u1).heap.size (blocks bs) fv := by
  obtain ⟨F, a1, a2, a3⟩ := h
  have h1 := Keep.setCell (Keep.setCell (Keep.refl q (q + 1) w) (p := ⟨q, 0, none⟩) (Nat.le_refl _) (Nat.lt_succ_self _) u0) (p := ⟨q, 1, none⟩) (Nat.le_refl _) (Nat.lt_succ_self _) u1
  exact ⟨F, Hold.keep _ _ F a1 fun g hg => h1.block g (by have := a2.2 g hg; omega) (.inr (by have := a2.2 g hg; omega)), ⟨a2.1, fun g hg => by have := a2.2 g hg; simp; omega⟩, by simp⟩
theorem lv_one {w : World} {g lo : Nat} {t : TypeId} {a z : Int} (bl : Blk w g t #[.int .i64 a, .int .i64 z]) (h : lo ≤ g) : Lv w lo w.heap.size (blocks [⟨a, z⟩]) (.slice (some ⟨g, 0, none⟩) 1 1) := by
  refine ⟨[g], ?_, ⟨by simp, fun b hb => by rw [List.mem_singleton.1 hb]; exact ⟨h, bl.lt⟩⟩, Nat.le_refl _⟩
  rw [blocks, Hold]
  refine ⟨_, 1, 1, rfl, rfl, Nat.le_refl _, by decide, .inr ⟨by decide, g, 0, [], bvals [⟨a, z⟩], rfl, rfl, ⟨_, _, bl, fun j u hu => ?_⟩, by rw [pd_blkC]; exact holdL_lits' w _⟩⟩
  rw [Nat.zero_add, ← Array.getElem?_toList]
  exact hu
set_option maxHeartbeats 3200000 in
theorem specNew_no {n : Int} (hr : ¬ (0 ≤ n ∧ n ≤ 4096)) (w : World) : Calls Try.prog 21 #[.int .i64 n] w fun e w' => ∃ us, e = .returned (.tuple #[.agg us.toArray, .int .i64 (memNew n).2]) ∧ LvC w' w.heap.size w'.heap.size (Memory.pd (memNew n).1) us ∧ Below w.heap.size w w' := by
  have HF := Lib.hid (memNew_no hr)
  have hin : inB n 0 4096 = false := inB_no.2 (by omega)
  rw [HF.out]
  clear hr
  go_enter Try.func21, Try.ntmps21
  go_wp2_with fail
  obtain ⟨w0, hw0⟩ : ∃ W, W = w.alloc (.cells #[.string ⟨#[]⟩, .slice none 0 0] 29) := ⟨_, rfl⟩
  rw [← hw0]
  have bR : Blk w0 w.heap.size 29 #[.string ⟨#[]⟩, .slice none 0 0] := by rw [hw0]; exact Blk.new w _ _
  have hB : Below w.heap.size w w0 := by rw [hw0]; exact (Below.refl _ _).alloc (Nat.le_refl _) _
  have hs : w.heap.size + 1 ≤ w0.heap.size := by rw [hw0]; simp
  clear hw0
  refine (l00In_any _ _ _ _).mono ?_
  rintro e w1 ⟨rfl, rfl⟩
  have r0 : w0.cell? ⟨w.heap.size, 0, none⟩ = some (.string ⟨#[]⟩) := bR.cell 0
  have r1 : w0.cell? ⟨w.heap.size, 1, none⟩ = some (.slice none 0 0) := bR.cell 1
  have f0 := bR.frozen 0
  have f1 := bR.frozen 1
  go_wp2_with fail
  refine bodyPost_ret (v := .tuple #[.agg #[.string ⟨#[]⟩, .slice none 0 0], .int .i64 2]) (by simp [results, Try.results21, go_sem, r0, r1]) rfl ⟨[.string ⟨#[]⟩, .slice none 0 0], rfl, lvC_mem (bs := []) (hold_keep2 (by obtain ⟨F, a1, a2, a3⟩ := nil_blk w0 w0.heap.size (Nat.le_refl _); exact ⟨F, a1, ⟨a2.1, fun g hg => by have := a2.2 g hg; omega⟩, a3⟩)) _, ?_⟩
  repeat (first | exact hB | refine Below.setCell ?_ (by simp; try omega) _)
set_option maxHeartbeats 3200000 in
theorem implNew_no {n : Int} (hr : ¬ (0 ≤ n ∧ n ≤ 4096)) (w : World) : Calls Try.prog 22 #[.int .i64 n] w fun e w' => ∃ us, e = .returned (.tuple #[.agg us.toArray, .int .i64 (memNew n).2]) ∧ LvC w' w.heap.size w'.heap.size (Memory.pd (memNew n).1) us ∧ Below w.heap.size w w' := by
  have HF := Lib.hid (memNew_no hr)
  have hin : inB n 0 4096 = false := inB_no.2 (by omega)
  rw [HF.out]
  clear hr
  go_enter Try.func22, Try.ntmps22
  go_wp2_with fail
  obtain ⟨w0, hw0⟩ : ∃ W, W = w.alloc (.cells #[.string ⟨#[]⟩, .slice none 0 0] 29) := ⟨_, rfl⟩
  rw [← hw0]
  have bR : Blk w0 w.heap.size 29 #[.string ⟨#[]⟩, .slice none 0 0] := by rw [hw0]; exact Blk.new w _ _
  have hB : Below w.heap.size w w0 := by rw [hw0]; exact (Below.refl _ _).alloc (Nat.le_refl _) _
  have hs : w.heap.size + 1 ≤ w0.heap.size := by rw [hw0]; simp
  clear hw0
  refine (within_any _ _ _ _).mono ?_
  rintro e w1 ⟨rfl, rfl⟩
  have r0 : w0.cell? ⟨w.heap.size, 0, none⟩ = some (.string ⟨#[]⟩) := bR.cell 0
  have r1 : w0.cell? ⟨w.heap.size, 1, none⟩ = some (.slice none 0 0) := bR.cell 1
  have f0 := bR.frozen 0
  have f1 := bR.frozen 1
  go_wp2_with fail
  refine bodyPost_ret (v := .tuple #[.agg #[.string ⟨#[]⟩, .slice none 0 0], .int .i64 2]) (by simp [results, Try.results22, go_sem, r0, r1]) rfl ⟨[.string ⟨#[]⟩, .slice none 0 0], rfl, lvC_mem (bs := []) (hold_keep2 (by obtain ⟨F, a1, a2, a3⟩ := nil_blk w0 w0.heap.size (Nat.le_refl _); exact ⟨F, a1, ⟨a2.1, fun g hg => by have := a2.2 g hg; omega⟩, a3⟩)) _, ?_⟩
  repeat (first | exact hB | refine Below.setCell ?_ (by simp; try omega) _)
set_option maxHeartbeats 3200000 in
theorem implNew_yes {m : Nat} (hm : m ≤ 4096) (w : World) : Calls Try.prog 22 #[.int .i64 m] w fun e w' => ∃ us, e = .returned (.tuple #[.agg us.toArray, .int .i64 (memNew m).2]) ∧ LvC w' w.heap.size w'.heap.size (Memory.pd (memNew m).1) us ∧ Below w.heap.size w w' := by
  have HF := Lib.hid (memNew_yes hm)
  have hin : inB (m : Int) 0 4096 = true := inB_yes (by omega) (by omega)
  rw [HF.out]
  go_enter Try.func22, Try.ntmps22
  go_wp2_with fail
  obtain ⟨w0, hw0⟩ : ∃ W, W = w.alloc (.cells #[.string ⟨#[]⟩, .slice none 0 0] 29) := ⟨_, rfl⟩
  rw [← hw0]
  have bR : Blk w0 w.heap.size 29 #[.string ⟨#[]⟩, .slice none 0 0] := by rw [hw0]; exact Blk.new w _ _
  have hB : Below w.heap.size w w0 := by rw [hw0]; exact (Below.refl _ _).alloc (Nat.le_refl _) _
  have hs : w.heap.size + 1 ≤ w0.heap.size := by rw [hw0]; simp
  clear hw0
  refine (within_any _ _ _ _).mono ?_
  rintro e w1 ⟨rfl, rfl⟩
  go_wp2_with fail
  obtain ⟨w2, hw2⟩ : ∃ W, W = w0.alloc (.cells #[.slice none 0 0, .slice none 0 0] 60) := ⟨_, rfl⟩
  rw [← hw2]
  have bS : Blk w2 w0.heap.size 60 #[.slice none 0 0, .slice none 0 0] := by rw [hw2]; exact Blk.new w0 _ _
  have hb2 : Below w0.heap.size w0 w2 := by rw [hw2]; exact (Below.refl _ _).alloc (Nat.le_refl _) _
  have bR2 := bR.step hb2
  have hB2 := hB.trans (hb2.mono hB.size)
  have hs2 := hb2.size
  clear hw2 bR
  refine (grow_nil bS hm).mono ?_
  rintro e w3 ⟨bv, fv, rfl, bS3, hbv, hL, hK⟩
  have hb3 : Below w0.heap.size w2 w3 := hK.below (by omega)
  have bR3 := bR2.below hb3 (by omega)
  have hB3 := hB2.trans (hb3.mono hB.size)
  have HL := Lib.hid hL
  have HBV := Lib.hid hbv
  clear hL hbv bS bR2
  go_wp2_with fail
  refine (memory_any bS3 HBV.out HL.out.is (by rw [freeN]; split <;> simp)).mono ?_
  rintro e w4 ⟨fv', rfl, hL4, hb4⟩
  have hs3 := hb3.size
  have bR4 := bR3.step hb4
  have hB4 := hB3.trans (hb4.mono hB3.size)
  obtain ⟨A4, n4, c4, rfl⟩ := hL4.form
  have HL4 := Lib.hid hL4
  clear hL4 bR3
  have r0 : w4.cell? ⟨w.heap.size, 0, none⟩ = some (.string ⟨#[]⟩) := bR4.cell 0
  have r1 : w4.cell? ⟨w.heap.size, 1, none⟩ = some (.slice none 0 0) := bR4.cell 1
  have f0 := bR4.frozen 0
  have f1 := bR4.frozen 1
  have hs4 := hb4.size
  go_wp2_with fail
  refine bodyPost_ret (v := .tuple #[.agg #[.string (zerosB m), .slice A4 n4 c4], .int .i64 0]) (by simp [results, Try.results22, go_sem, r0, r1]) rfl ⟨[.string (zerosB m), .slice A4 n4 c4], rfl, lvC_mem (hold_keep2 (by obtain ⟨F, a1, a2, a3⟩ := HL4.out; exact ⟨F, a1, ⟨a2.1, fun g hg => by have := a2.2 g hg; omega⟩, a3⟩)) _, ?_⟩
  repeat (first | exact hB4 | refine Below.setCell ?_ (by simp; try omega) _)
set_option maxHeartbeats 3200000 in
theorem specNew_yes {m : Nat} (hm : m ≤ 4096) (w : World) : Calls Try.prog 21 #[.int .i64 m] w fun e w' => ∃ us, e = .returned (.tuple #[.agg us.toArray, .int .i64 (memNew m).2]) ∧ LvC w' w.heap.size w'.heap.size (Memory.pd (memNew m).1) us ∧ Below w.heap.size w w' := by
  have HF := Lib.hid (memNew_yes hm)
  have hin : inB (m : Int) 0 4096 = true := inB_yes (by omega) (by omega)
  rw [HF.out]
  obtain ⟨i0, hi, hz0, hz1, hz2⟩ := info_parts byte_info
  go_enter Try.func21, Try.ntmps21
  go_wp2_with fail
  obtain ⟨w0, hw0⟩ : ∃ W, W = w.alloc (.cells #[.string ⟨#[]⟩, .slice none 0 0] 29) := ⟨_, rfl⟩
  rw [← hw0]
  have bR : Blk w0 w.heap.size 29 #[.string ⟨#[]⟩, .slice none 0 0] := by rw [hw0]; exact Blk.new w _ _
  have hB : Below w.heap.size w w0 := by rw [hw0]; exact (Below.refl _ _).alloc (Nat.le_refl _) _
  have hs : w.heap.size + 1 ≤ w0.heap.size := by rw [hw0]; simp
  clear hw0
  refine (l00In_any _ _ _ _).mono ?_
  rintro e w1 ⟨rfl, rfl⟩
  have hmk := run_make_rowN (P := Try.prog) 45 5 i0 _ Try.underlying45 hi hz0 .i64 .i64 m m (Nat.le_refl _) (by rw [hz2]; omega) (by omega) w0
  rw [hz1, Nat.mul_one, show (Value.int .u8 0).cells = #[Value.int .u8 0] from rfl] at hmk
  have hml : (madeCells #[Value.int .u8 0] m).toList = List.replicate m (.int .u8 0) := toList_madeCells_one _ _
  have hx := RowX.zeros (B := w.heap.size) (w := w0) (cur := madeCells #[Value.int .u8 0] m) (n := m) (cap := m) (by omega) (Nat.le_refl _) (by simp only [maxLen]; omega) (by simp [size_madeCells]) (by rw [hml, List.take_replicate, Nat.min_self])
  have cv := hx.str
  by_cases h8 : 8 < m
  · have h8' : (8 : Int) < (m : Int) := by omega
    have HE := Lib.hid (freeN_yes h8)
    obtain ⟨W3, hW3⟩ : ∃ W, W = (((w0.alloc (.cells (madeCells #[Value.int .u8 0] m) 5)).alloc (.cells #[.string (zerosB m), .slice (some ⟨w0.heap.size + 1 + 1, 0, none⟩) 1 1] 29)).alloc (.cells #[.int .i64 8, .int .i64 ((m : Int) - 8)] 49)) := ⟨_, rfl⟩
    have bR3 : Blk W3 w.heap.size 29 #[.string ⟨#[]⟩, .slice none 0 0] := by rw [hW3]; exact ((bR.alloc _).alloc _).alloc _
    have bF : Blk W3 (w0.heap.size + 1 + 1) 49 #[.int .i64 8, .int .i64 ((m : Int) - 8)] := by
      rw [hW3]
      have := Blk.new ((w0.alloc (.cells (madeCells #[Value.int .u8 0] m) 5)).alloc (.cells #[.string (zerosB m), .slice (some ⟨w0.heap.size + 1 + 1, 0, none⟩) 1 1] 29)) 49 #[.int .i64 8, .int .i64 ((m : Int) - 8)]
      simpa using this
    have hB3 : Below w.heap.size w W3 := by rw [hW3]; exact ((hB.alloc hB.size _).alloc (by simp; omega) _).alloc (by simp; omega) _
    have hL := Lib.hid (lv_one bF (lo := w.heap.size + 1) (by omega))
    have r0 := bR3.cell 0
    have r1 := bR3.cell 1
    have f0 := bR3.frozen 0
    have f1 := bR3.frozen 1
    have HW := Lib.hid hW3
    rw [hW3] at r0 r1 f0 f1
    clear hx hml hi hz0 hz1 hz2 hW3
    go_wp2_with fail
    rw [← HW.out]
    have r0 := bR3.cell 0
    have r1 := bR3.cell 1
    refine bodyPost_ret (v := .tuple #[.agg #[.string (zerosB m), .slice (some ⟨w0.heap.size + 1 + 1, 0, none⟩) 1 1], .int .i64 0]) (by simp [results, Try.results21, go_sem, r0, r1]) rfl ⟨[.string (zerosB m), .slice (some ⟨w0.heap.size + 1 + 1, 0, none⟩) 1 1], rfl, by rw [HE.out]; exact lvC_mem (hold_keep2 hL.out) _, ?_⟩
    repeat (first | exact hB3 | refine Below.setCell ?_ (by simp; try omega) _)
  · have h8' : ¬ (8 : Int) < (m : Int) := by omega
    have HE := Lib.hid (freeN_no h8)
    obtain ⟨W3, hW3⟩ : ∃ W, W = ((w0.alloc (.cells (madeCells #[Value.int .u8 0] m) 5)).alloc (.cells #[.string (zerosB m), .slice none 0 0] 29)) := ⟨_, rfl⟩
    have bR3 : Blk W3 w.heap.size 29 #[.string ⟨#[]⟩, .slice none 0 0] := by rw [hW3]; exact (bR.alloc _).alloc _
    have hB3 : Below w.heap.size w W3 := by rw [hW3]; exact (hB.alloc hB.size _).alloc (by simp; omega) _
    have hs3 : w.heap.size + 1 ≤ W3.heap.size := by rw [hW3]; simp; omega
    have r0 := bR3.cell 0
    have r1 := bR3.cell 1
    have f0 := bR3.frozen 0
    have f1 := bR3.frozen 1
    have HW := Lib.hid hW3
    rw [hW3] at r0 r1 f0 f1
    clear hx hml hi hz0 hz1 hz2 hW3
    go_wp2_with fail
    rw [← HW.out]
    have r0 := bR3.cell 0
    have r1 := bR3.cell 1
    refine bodyPost_ret (v := .tuple #[.agg #[.string (zerosB m), .slice none 0 0], .int .i64 0]) (by simp [results, Try.results21, go_sem, r0, r1]) rfl ⟨[.string (zerosB m), .slice none 0 0], rfl, by rw [HE.out]; exact lvC_mem (hold_keep2 (by obtain ⟨F, a1, a2, a3⟩ := nil_blk W3 W3.heap.size (Nat.le_refl _); exact ⟨F, a1, ⟨a2.1, fun g hg => by have := a2.2 g hg; omega⟩, a3⟩)) _, ?_⟩
    repeat (first | exact hB3 | refine Below.setCell ?_ (by simp; try omega) _)
theorem specNewMemory_ok (n : Int) (h : (Lit.int .i64 n).wf = true) : ∀ B w, B ≤ w.heap.size → Calls Try.prog 21 #[.int .i64 n] w fun e w' => ∃ us, e = .returned (.tuple #[.agg us.toArray, .int .i64 (memNew n).2]) ∧ LvC w' w.heap.size w'.heap.size (Memory.pd (memNew n).1) us ∧ Below w.heap.size w w' := by
  intro B w _
  by_cases hr : 0 ≤ n ∧ n ≤ 4096
  · obtain ⟨m, rfl⟩ : ∃ m : Nat, n = m := ⟨n.toNat, by omega⟩
    exact specNew_yes (by omega) w
  · exact specNew_no hr w
theorem implNewMemory_ok (n : Int) (h : (Lit.int .i64 n).wf = true) : ∀ B w, B ≤ w.heap.size → Calls Try.prog 22 #[.int .i64 n] w fun e w' => ∃ us, e = .returned (.tuple #[.agg us.toArray, .int .i64 (memNew n).2]) ∧ LvC w' w.heap.size w'.heap.size (Memory.pd (memNew n).1) us ∧ Below w.heap.size w w' := by
  intro B w _
  by_cases hr : 0 ≤ n ∧ n ≤ 4096
  · obtain ⟨m, rfl⟩ : ∃ m : Nat, n = m := ⟨n.toNat, by omega⟩
    exact implNew_yes (by omega) w
  · exact implNew_no hr w
end Go.Proofs.Ytlppngpafjfjeaa

