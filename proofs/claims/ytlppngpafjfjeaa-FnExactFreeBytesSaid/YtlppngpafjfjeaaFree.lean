/-
  spec.FreeBytes and impl.FreeBytes return the same number.
-/
import Derived.Test.YtlppngpafjfjeaaMemOk
namespace Go.Proofs.Ytlppngpafjfjeaa
open Go.RowKit
set_option linter.unusedVariables false

def sumTo (bs : List Block) (k : Nat) : Int := ((bs.take k).map Block.size).sum
def freeB (s : ByteArray) (bs : List Block) : Int := if memOk s bs then sumTo bs bs.length else 0
theorem sumTo_succ {bs : List Block} {k : Nat} {b : Block} (h : bs[k]? = some b) : sumTo bs (k + 1) = sumTo bs k + b.size := by
  unfold sumTo
  rw [List.take_add_one, h]
  simp
theorem blkOk_size {n : Int} (h4 : n ≤ 4096) : ∀ {bs : List Block} {last : Int}, 0 ≤ last → blkOk n last bs = true → ∀ b ∈ bs, 0 < b.size ∧ b.size ≤ 4096
  | [], last, _, _ => by simp
  | b :: bs, last, h0, h => by
    rw [blkOk, Bool.and_eq_true] at h
    obtain ⟨h1, h2⟩ := h
    simp only [stepOk, Bool.and_eq_true, decide_eq_true_eq] at h1
    intro c hc
    rcases List.mem_cons.1 hc with rfl | hc
    · omega
    · exact blkOk_size h4 (by omega) h2 c hc
theorem sumTo_bound {bs : List Block} (h : ∀ b ∈ bs, 0 < b.size ∧ b.size ≤ 4096) : ∀ k : Nat, k ≤ bs.length → 0 ≤ sumTo bs k ∧ sumTo bs k ≤ 4096 * (k : Int)
  | 0, _ => by simp [sumTo]
  | k + 1, hk => by
    have ih := sumTo_bound h k (by omega)
    have hb := h bs[k] (List.getElem_mem _)
    rw [sumTo_succ (List.getElem?_eq_getElem (by omega))]
    omega
theorem memOk_facts {s : ByteArray} {bs : List Block} (h : memOk s bs = true) : (∀ b ∈ bs, 0 < b.size ∧ b.size ≤ 4096) ∧ bs.length ≤ 4096 := by
  simp only [memOk, Bool.and_eq_true, decide_eq_true_eq] at h
  refine ⟨blkOk_size (by omega) (by omega) h.2, ?_⟩
  rcases blkOk_len h.2 with rfl | h2
  · simp
  · omega

set_option maxHeartbeats 800000 in
theorem implFree_any {s : ByteArray} {v : Value} {B : Nat} {bs : List Block} {w : World} (hs : s.size ≤ maxLen) (hB : B ≤ w.heap.size) (h : Rep w B (blocks bs) v) (hw : ∀ b ∈ bs, b.wf) :
    Calls Try.prog 20 #[.agg #[.string s, v]] w fun e w' => e = .returned (.int .i64 (freeB s bs)) ∧ Below w.heap.size w w' := by
  obtain ⟨A, m, c, rfl, hnl, hm, hat⟩ := rep_row Block.pd_length (by decide) h
  unfold maxLen at hm
  have HN := Lib.hid hnl
  have HR := Lib.hid h
  have HW := Lib.hid hw
  have HS := Lib.hid hs
  clear h hnl hw hs
  cases hok : memOk s bs
  · have HF : Hid (freeB s bs = 0) := by show _ = _; simp [freeB, hok]
    have HO := Lib.hid hok
    clear hok
    go_enter Try.func20, Try.ntmps20
    go_wp2_with fail
    have hb0 : Below w.heap.size w (w.alloc (.cells #[.string s, .slice A m c] 29)) := (Below.refl _ _).alloc (Nat.le_refl _) _
    refine (implMemoryOk_any HS.out (by simp; omega) (HR.out.below (hb0.mono hB)) HW.out).mono ?_
    rintro e w1 ⟨rfl, hb1⟩
    rw [HO.out]
    go_wp2_with fail
    go_ret
    exact ⟨ret_int HF.out.symm, below_box hb1⟩
  · have HF : Hid (freeB s bs = sumTo bs bs.length) := by show _ = _; simp [freeB, hok]
    have HO := Lib.hid hok
    have hfa := memOk_facts hok
    have HB := Lib.hid hfa.1
    have hml : m ≤ 4096 := by have := HN.out; have := hfa.2; omega
    clear hok hfa
    go_enter Try.func20, Try.ntmps20
    go_wp2_with fail
    have hb0 : Below w.heap.size w (w.alloc (.cells #[.string s, .slice A m c] 29)) := (Below.refl _ _).alloc (Nat.le_refl _) _
    refine (implMemoryOk_any HS.out (by simp; omega) (HR.out.below (hb0.mono hB)) HW.out).mono ?_
    rintro e w1 ⟨rfl, hb1⟩
    rw [HO.out]
    have hB1 := below_box hb1
    have a1 : w1.cell? ⟨w.heap.size, 1, none⟩ = some (.slice A m c) := box_cell hb1 1
    clear hb1 hb0
    go_wp2_with fail
    go_loopw [3, 12] (fun l i wr => ∃ k : Nat, k ≤ m ∧ i = .int .i64 k ∧ l = .int .i64 (sumTo bs k) ∧ Below w.heap.size w wr) (fun _ i _ => m - (intOf i).toNat)
    case atStart => exact ⟨0, Nat.zero_le _, rfl, rfl, hB1⟩
    case round =>
      obtain ⟨k, hk, rfl, rfl, hbr⟩ := hrel
      clear hB1
      have hsz := hbr.size
      obtain ⟨z, hz⟩ : ∃ z, z = sumTo bs k := ⟨_, rfl⟩
      have hzb := sumTo_bound HB.out k (by have := HN.out; omega)
      rw [← hz] at hzb
      obtain ⟨hz1, hz2⟩ := hzb
      have HZ := Lib.hid hz
      rw [← hz]
      clear hz
      by_cases hlt : k < m
      · obtain ⟨g, off, rfl, hg, hcell⟩ := hat (by omega)
        obtain ⟨b, hx, hmem⟩ := at_lt HN.out hlt
        have c0 : wr.cell? ⟨g, off + k * 2, none⟩ = some (.int .i64 b.at_) := by
          obtain ⟨u, hu, hr⟩ := hcell k 0 b _ hx rfl
          rw [hr.of_lit] at hu
          exact (hbr.cell (by show g < _; omega)).trans hu
        have c1 : wr.cell? ⟨g, off + k * 2 + 1, none⟩ = some (.int .i64 b.size) := by
          obtain ⟨u, hu, hr⟩ := hcell k 1 b _ hx rfl
          rw [hr.of_lit] at hu
          exact (hbr.cell (by show g < _; omega)).trans hu
        obtain ⟨x, hxx⟩ : ∃ x, x = b.at_ := ⟨_, rfl⟩
        obtain ⟨y, hyy⟩ : ∃ y, y = b.size := ⟨_, rfl⟩
        have hy := HB.out b hmem
        rw [← hxx] at c0
        rw [← hyy] at c1 hy
        obtain ⟨hy1, hy2⟩ := hy
        have HX := Lib.hid (sumTo_succ hx)
        have HYY := Lib.hid hyy
        clear hx hcell hxx hyy
        have hbn := (hbr.alloc hsz (.cells #[.int .i64 x, .int .i64 y] 49))
        clear hbr
        go_wp2_with fail
        go_roundw
        case rel => exact ⟨k + 1, by omega, by go_num, by rw [HX.out, ← HZ.out, ← HYY.out], hbn⟩
        case measure => simp [intOf]; omega
      · have hkn : k = m := by omega
        subst hkn
        go_wp2_with fail
        go_ret
        exact ⟨ret_int (by rw [HF.out, HZ.out, HN.out]), hbr⟩

set_option maxHeartbeats 800000 in
theorem specFree_any {s : ByteArray} {v : Value} {B : Nat} {bs : List Block} {w : World} (hs : s.size ≤ maxLen) (hB : B ≤ w.heap.size) (h : Rep w B (blocks bs) v) (hw : ∀ b ∈ bs, b.wf) :
    Calls Try.prog 19 #[.agg #[.string s, v]] w fun e w' => e = .returned (.int .i64 (freeB s bs)) ∧ Below w.heap.size w w' := by
  obtain ⟨A, m, c, rfl, hnl, hm, hat⟩ := rep_row Block.pd_length (by decide) h
  unfold maxLen at hm
  have HN := Lib.hid hnl
  have HR := Lib.hid h
  have HW := Lib.hid hw
  have HS := Lib.hid hs
  clear h hnl hw hs
  cases hok : memOk s bs
  · have HF : Hid (freeB s bs = 0) := by show _ = _; simp [freeB, hok]
    have HO := Lib.hid hok
    clear hok
    go_enter Try.func19, Try.ntmps19
    go_wp2_with fail
    obtain ⟨W1, hW1⟩ : ∃ W1, W1 = w.alloc (.cells #[.string s, .slice A m c] 29) := ⟨_, rfl⟩
    rw [← hW1]
    have bA : Blk W1 w.heap.size 29 #[.string s, .slice A m c] := by rw [hW1]; exact Blk.new w _ _
    have hb0 : Below w.heap.size w W1 := by rw [hW1]; exact (Below.refl _ _).alloc (Nat.le_refl _) _
    clear hW1
    go_loopw [3, 4] (fun l i wr => i = .int .i64 0 ∧ l = .int .i64 0 ∧ wr = W1) (fun _ i _ => 0)
    case atStart => exact ⟨rfl, rfl, rfl⟩
    obtain ⟨rfl, rfl, rfl⟩ := hrel
    have a0 : wr.cell? ⟨w.heap.size, 0, none⟩ = some (.string s) := bA.cell 0
    have a1 : wr.cell? ⟨w.heap.size, 1, none⟩ = some (.slice A m c) := bA.cell 1
    by_cases h0 : 0 < m
    · go_wp2_with fail
      refine (specMemoryOk_any HS.out (by have := hb0.size; omega) (HR.out.below (hb0.mono hB)) HW.out).mono ?_
      rintro e w1 ⟨rfl, hb1⟩
      rw [HO.out]
      have hB1 := hb0.trans (hb1.mono hb0.size)
      clear bA a0 a1 hb0
      go_wp2_with fail
      go_ret
      exact ⟨ret_int HF.out.symm, hB1⟩
    · have hm0 : m = 0 := by omega
      subst hm0
      go_wp2_with fail
      go_ret
      exact ⟨ret_int HF.out.symm, hb0⟩
  · have HF : Hid (freeB s bs = sumTo bs bs.length) := by show _ = _; simp [freeB, hok]
    have HO := Lib.hid hok
    have hfa := memOk_facts hok
    have HB := Lib.hid hfa.1
    have hml : m ≤ 4096 := by have := HN.out; have := hfa.2; omega
    clear hok hfa
    go_enter Try.func19, Try.ntmps19
    go_wp2_with fail
    obtain ⟨W1, hW1⟩ : ∃ W1, W1 = w.alloc (.cells #[.string s, .slice A m c] 29) := ⟨_, rfl⟩
    rw [← hW1]
    have bA : Blk W1 w.heap.size 29 #[.string s, .slice A m c] := by rw [hW1]; exact Blk.new w _ _
    have hb0 : Below w.heap.size w W1 := by rw [hW1]; exact (Below.refl _ _).alloc (Nat.le_refl _) _
    clear hW1
    go_loopw [3, 4] (fun l i wr => ∃ k : Nat, k ≤ m ∧ i = .int .i64 k ∧ l = .int .i64 (sumTo bs k) ∧ Below w.heap.size w wr ∧ Blk wr w.heap.size 29 #[.string s, .slice A m c]) (fun _ i _ => m - (intOf i).toNat)
    case atStart => exact ⟨0, Nat.zero_le _, rfl, rfl, hb0, bA⟩
    case round =>
      obtain ⟨k, hk, rfl, rfl, hbr, hbk⟩ := hrel
      clear hb0 bA
      have hsz := hbr.size
      obtain ⟨z, hz⟩ : ∃ z, z = sumTo bs k := ⟨_, rfl⟩
      have hzb := sumTo_bound HB.out k (by have := HN.out; omega)
      rw [← hz] at hzb
      obtain ⟨hz1, hz2⟩ := hzb
      have HZ := Lib.hid hz
      rw [← hz]
      clear hz
      have a0 : wr.cell? ⟨w.heap.size, 0, none⟩ = some (.string s) := hbk.cell 0
      have a1 : wr.cell? ⟨w.heap.size, 1, none⟩ = some (.slice A m c) := hbk.cell 1
      by_cases hlt : k < m
      · obtain ⟨g, off, rfl, hg, hcell⟩ := hat (by omega)
        obtain ⟨b, hx, hmem⟩ := at_lt HN.out hlt
        obtain ⟨y, hyy⟩ : ∃ y, y = b.size := ⟨_, rfl⟩
        have hy := HB.out b hmem
        rw [← hyy] at hy
        obtain ⟨hy1, hy2⟩ := hy
        have HX := Lib.hid (sumTo_succ hx)
        have HYY := Lib.hid hyy
        have HC := Lib.hid (hcell k 1 b _ hx rfl)
        clear hx hcell hyy
        go_wp2_with fail
        refine (specMemoryOk_any HS.out (by omega) (HR.out.below (hbr.mono hB)) HW.out).mono ?_
        rintro e w1 ⟨rfl, hb1⟩
        rw [HO.out]
        have hB1 := hbr.trans (hb1.mono hbr.size)
        have hbk1 := hbk.step hb1
        have c1 : w1.cell? ⟨g, off + k * 2 + 1, none⟩ = some (.int .i64 y) := by
          obtain ⟨u, hu, hr⟩ := HC.out
          rw [hr.of_lit, ← HYY.out] at hu
          exact (hB1.cell (by show g < _; omega)).trans hu
        have a1' : w1.cell? ⟨w.heap.size, 1, none⟩ = some (.slice (some ⟨g, off, none⟩) m c) := hbk1.cell 1
        clear a0 a1 hbr hbk hb1
        go_wp2_with fail
        go_roundw
        case rel => exact ⟨k + 1, by omega, by go_num, by rw [HX.out, ← HZ.out, ← HYY.out], hB1, hbk1⟩
        case measure => simp [intOf]; omega
      · have hkn : k = m := by omega
        have hd : decide ((k : Int) < (m : Int)) = false := by simp; omega
        have HK := Lib.hid hkn
        clear hkn
        go_wp2_with fail
        go_ret
        exact ⟨ret_int (by rw [HF.out, HZ.out, HK.out, HN.out]), hbr⟩
end Go.Proofs.Ytlppngpafjfjeaa
