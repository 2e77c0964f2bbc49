/-
  spec.l10Free.
-/
import Derived.Test.YtlppngpafjfjeaaRelS
namespace Go.Proofs.Ytlppngpafjfjeaa
open Go.RowKit
set_option linter.unusedVariables false
set_option linter.unusedSimpArgs false
set_option linter.unnecessarySimpa false
set_option maxRecDepth 16000

set_option maxHeartbeats 3200000 in
theorem l10Free_any {s : ByteArray} {A : Option Addr} {m c : Nat} {fs : List Block} {a z : Int} {w : World} (h : Rep w w.heap.size (blocks fs) (.slice A m c)) (hf : Fits fs) (ha : 0 ≤ a ∧ a ≤ 4096 ∧ 0 ≤ z ∧ z ≤ 4096) :
    Calls Try.prog 55 #[.agg #[.string s, .slice A m c], .int .i64 a, .int .i64 z] w fun e w' => e = .returned (.bool (freeAt fs a z)) ∧ Below w.heap.size w w' := by
  obtain ⟨A', m', c', he, hnl, hm, hat⟩ := rep_row Block.pd_length (by decide) h
  cases he
  unfold maxLen at hm
  have HN := Lib.hid hnl
  have HF := Lib.hid hf.2
  have hm4 : m ≤ 4096 := by rw [hnl]; exact hf.1
  clear h hf hnl
  obtain ⟨W1, hW1⟩ : ∃ W1, W1 = w.alloc (.cells #[.string s, .slice A m c] 29) := ⟨_, rfl⟩
  have bA : Blk W1 w.heap.size 29 #[.string s, .slice A m c] := by rw [hW1]; exact Blk.new w _ _
  have hb0 : Below w.heap.size w W1 := by rw [hW1]; exact (Below.refl _ _).alloc (Nat.le_refl _) _
  have HW1 := Lib.hid hW1
  clear hW1
  go_enter Try.func55, Try.ntmps55
  go_wp2_with fail
  rw [← HW1.out]
  go_loopw [7] (fun i wr => ∃ k : Nat, k ≤ m ∧ i = .int .i64 k ∧ Hid (freeAt fs a z = freeAt (fs.drop k) a z) ∧ Below w.heap.size w wr ∧ Blk wr w.heap.size 29 #[.string s, .slice A m c]) (fun i _ => m - (intOf i).toNat)
  case atStart => exact ⟨0, Nat.zero_le _, rfl, Lib.hid rfl, hb0, bA⟩
  case round =>
    obtain ⟨k, hk, rfl, HE, hbr, hbk⟩ := hrel
    clear hb0 bA
    have hsz := hbr.size
    have a1 : wr.cell? ⟨w.heap.size, 1, none⟩ = some (.slice A m c) := hbk.cell 1
    by_cases hlt : k < m
    · obtain ⟨g, off, rfl, hg, hcell⟩ := hat (by omega)
      obtain ⟨b, hx, hmem⟩ := at_lt HN.out hlt
      have c0 : wr.cell? ⟨g, off + k * 2, none⟩ = some (.int .i64 b.at_) := by
        obtain ⟨u, hu, hr⟩ := hcell k 0 b _ hx rfl
        rw [hr.of_lit] at hu
        exact (hbr.cell (by show g < _; omega)).trans hu
      have c1 : wr.cell? ⟨g, off + k * 2 + 1, none⟩ = some (.int .i64 b.size) := by
        obtain ⟨u, hu, hr⟩ := hcell k 1 b _ hx rfl
        rw [hr.of_lit] at hu
        exact (hbr.cell (by show g < _; omega)).trans hu
      have hxb := HF.out b hmem
      have HQ : Hid (freeAt fs a z = ((decide (b.at_ < a + z) && decide (a < b.at_ + b.size)) || freeAt (fs.drop (k + 1)) a z)) := by
        show _ = _
        rw [HE.out, drop_cons hx]; rfl
      obtain ⟨x, y⟩ := b
      simp only at c0 c1 hxb
      have hbn := (hbr.alloc hsz (.cells #[.int .i64 x, .int .i64 y] 49))
      have hbk' := hbk.alloc (.cells #[.int .i64 x, .int .i64 y] 49)
      clear hx hcell hmem hbr hbk HE
      by_cases g1 : x < a + z
      · by_cases g2 : a < x + y
        · have HG : Hid (freeAt fs a z = true) := by show _ = _; rw [HQ.out]; simp [g1, g2]
          go_wp2_with fail
          go_ret
          exact ⟨ret_bool (by rw [HG.out]), hbn⟩
        · have HG : Hid (freeAt fs a z = freeAt (fs.drop (k + 1)) a z) := by show _ = _; rw [HQ.out]; simp [g2]
          go_wp2_with fail
          go_roundw
          case rel => exact ⟨k + 1, by omega, by go_num, HG, hbn, hbk'⟩
          case measure => simp [intOf]; omega
      · have HG : Hid (freeAt fs a z = freeAt (fs.drop (k + 1)) a z) := by show _ = _; rw [HQ.out]; simp [g1]
        go_wp2_with fail
        go_roundw
        case rel => exact ⟨k + 1, by omega, by go_num, HG, hbn, hbk'⟩
        case measure => simp [intOf]; omega
    · have hkn : k = m := by omega
      have HG : Hid (freeAt fs a z = false) := by
        show _ = _
        rw [HE.out, List.drop_of_length_le (by have := HN.out; omega)]; rfl
      subst hkn
      go_wp2_with fail
      go_ret
      exact ⟨ret_bool (by rw [HG.out]), hbr⟩
end Go.Proofs.Ytlppngpafjfjeaa

