/-
  slices.Concat of three rows of blocks (by program: gen_concat.py).
-/
import Derived.Test.YtlppngpafjfjeaaBlk
namespace Go.Proofs.Ytlppngpafjfjeaa
open Go.RowKit
set_option linter.unusedVariables false
set_option linter.unusedSimpArgs false
set_option linter.unnecessarySimpa false
set_option maxRecDepth 16000

def sum3 (a b c : Nat) : Nat → Nat | 0 => 0 | 1 => a | 2 => a + b | _ => a + b + c
def cat3 (a b c : List Block) : Nat → List Block | 0 => [] | 1 => a | 2 => a ++ b | _ => a ++ b ++ c
set_option maxHeartbeats 3200000 in
theorem concatB_any {b1 b2 b3 : List Block} (l1 : b1.length ≤ 1000000) (l2 : b2.length ≤ 1000000) (l3 : b3.length ≤ 1000000) (h0 : 0 < b2.length) {w : World} {g : Nat} {v1 v2 v3 : Value} (bl : Blk w g 27 #[v1, v2, v3])
    (r1 : Rep w w.heap.size (blocks b1) v1) (r2 : Rep w w.heap.size (blocks b2) v2) (r3 : Rep w w.heap.size (blocks b3) v3) (c : Nat) :
    Calls Try.prog 69 #[.slice (some ⟨g, 0, none⟩) 3 c] w fun e w' => ∃ u, e = .returned u ∧ Lv w' w.heap.size w'.heap.size (blocks (b1 ++ b2 ++ b3)) u ∧ Below w.heap.size w w' := by
  obtain ⟨i0, hi, hz0, hz1, hz2⟩ := info_parts block_info
  obtain ⟨A1, n1, c1, rfl, hn1, _, _⟩ := rep_row Block.pd_length (by decide) r1
  obtain ⟨A2, n2, c2, rfl, hn2, _, _⟩ := rep_row Block.pd_length (by decide) r2
  obtain ⟨A3, n3, c3, rfl, hn3, _, _⟩ := rep_row Block.pd_length (by decide) r3
  have R1 := Lib.hid r1
  have R2 := Lib.hid r2
  have R3 := Lib.hid r3
  have BL := Lib.hid bl
  have m1 : n1 ≤ 1000000 := by omega
  have m2 : n2 ≤ 1000000 := by omega
  have m3 : n3 ≤ 1000000 := by omega
  have m0 : 0 < n2 := by omega
  have HN := Lib.hid (And.intro hn1 (And.intro hn2 hn3))
  clear r1 r2 r3 bl l1 l2 l3 h0 hn1 hn2 hn3
  go_enter Try.func69, Try.ntmps69
  go_wp2_with fail
  go_loopw [3, 11] (fun a i wr => ∃ k m : Nat, k ≤ 3 ∧ i = .int .i64 k ∧ a = .int .i64 m ∧ Hid (m = sum3 n1 n2 n3 k) ∧ w = wr) (fun _ i _ => 3 - (intOf i).toNat)
  case atStart => exact ⟨0, 0, by omega, rfl, rfl, Lib.hid rfl, rfl⟩
  case round =>
    obtain ⟨k, m, hk, rfl, rfl, HM, rfl⟩ := hrel
    rcases (show k = 0 ∨ k = 1 ∨ k = 2 ∨ k = 3 by omega) with rfl | rfl | rfl | rfl
    · have hm : 0 = m := HM.out.symm
      have c0 : w.cell? ⟨g, 0, none⟩ = some (.slice A1 n1 c1) := BL.out.cell 0
      subst hm
      go_wp2_with fail
      go_roundw
      case rel => exact ⟨1, n1, by omega, by first | rfl | go_num, by first | rfl | go_num, Lib.hid rfl, trivial⟩
      case measure => simp [intOf]
    · have hm : n1 = m := HM.out.symm
      have c1 : w.cell? ⟨g, 1, none⟩ = some (.slice A2 n2 c2) := BL.out.cell 1
      subst hm
      go_wp2_with fail
      go_roundw
      case rel => exact ⟨2, n1 + n2, by omega, by first | rfl | go_num, by first | rfl | go_num, Lib.hid rfl, trivial⟩
      case measure => simp [intOf]
    · have hm : n1 + n2 = m := HM.out.symm
      have c2 : w.cell? ⟨g, 2, none⟩ = some (.slice A3 n3 c3) := BL.out.cell 2
      subst hm
      go_wp2_with fail
      go_roundw
      case rel => exact ⟨3, n1 + n2 + n3, by omega, by first | rfl | go_num, by first | rfl | go_num, Lib.hid rfl, trivial⟩
      case measure => simp [intOf]
    · have hm : m = n1 + n2 + n3 := HM.out
      have hmp : 0 < m := by omega
      have hml : m ≤ 4000000 := by omega
      clear hm
      go_wp2_with fail
      refine (growB_any m hmp hml _).mono ?_
      rintro e w1 ⟨uA0, uC0, rfl, hown0, hb1⟩
      have HO0 := Lib.hid hown0
      clear hown0
      go_wp2_with fail
      go_loopw [6, 27] (fun u i wr => ∃ k : Nat, k ≤ 3 ∧ i = .int .i64 k ∧ Hid (wr.ownsRow w.heap.size 49 2 u (cat3 b1 b2 b3 k).length (bvals (cat3 b1 b2 b3 k))) ∧ Below w.heap.size w wr) (fun _ i _ => 3 - (intOf i).toNat)
      case atStart => exact ⟨0, by omega, rfl, HO0, hb1⟩
      case round =>
        clear hb1 HO0
        obtain ⟨k, hk, rfl, HO, hbr⟩ := hrel
        obtain ⟨uA, uN, uC, rfl, hul, _⟩ := (Own.of_own HO.out).form
        clear hul
        rcases (show k = 0 ∨ k = 1 ∨ k = 2 ∨ k = 3 by omega) with rfl | rfl | rfl | rfl
        · have c0 : wr.cell? ⟨g, 0, none⟩ = some (.slice A1 n1 c1) := (BL.out.step hbr).cell 0
          have HS := Lib.hid (src_blk (R1.out.below hbr))
          have hown : wr.ownsRow w.heap.size 49 2 (.slice uA uN uC) ([] : List Block).length (bvals ([] : List Block)) := HO.out
          have hln : ([] : List Block).length ≤ 2000000 := by have := HN.out; simp; try omega
          have hlm : b1.length ≤ 1000000 := by have := HN.out; omega
          go_wp2_with (at_builtin; refine wpList_append_src rfl _ _ 27 rfl w.heap.size 49 i0 (.agg #[.int .i64 0, .int .i64 0]) 2 16 Try.underlying27 hi hz0 hz1 hz2 rfl (by decide) _ _ _ rfl hown _ _ _ rfl HS.out (one_blk _) (by simp only [maxLen]; omega) (by omega) hbr.size ?_; intro v' w3 hown' hgrow hat2)
          have hB3 := hbr.grown hgrow hbr.size (fun g hg => (hown.lt g hg).1)
          have HO3 : Hid (w3.ownsRow w.heap.size 49 2 v' (cat3 b1 b2 b3 1).length (bvals (cat3 b1 b2 b3 1))) := by have := hown'; rw [← bvals_append, ← List.length_append] at this; exact this
          clear hown hown' hgrow hat2
          go_roundw
          case rel => exact ⟨1, by omega, by first | rfl | go_num, HO3, hB3⟩
          case measure => simp [intOf]
        · have c1 : wr.cell? ⟨g, 1, none⟩ = some (.slice A2 n2 c2) := (BL.out.step hbr).cell 1
          have HS := Lib.hid (src_blk (R2.out.below hbr))
          have hown : wr.ownsRow w.heap.size 49 2 (.slice uA uN uC) b1.length (bvals b1) := HO.out
          have hln : b1.length ≤ 2000000 := by have := HN.out; simp; try omega
          have hlm : b2.length ≤ 1000000 := by have := HN.out; omega
          go_wp2_with (at_builtin; refine wpList_append_src rfl _ _ 27 rfl w.heap.size 49 i0 (.agg #[.int .i64 0, .int .i64 0]) 2 16 Try.underlying27 hi hz0 hz1 hz2 rfl (by decide) _ _ _ rfl hown _ _ _ rfl HS.out (one_blk _) (by simp only [maxLen]; omega) (by omega) hbr.size ?_; intro v' w3 hown' hgrow hat2)
          have hB3 := hbr.grown hgrow hbr.size (fun g hg => (hown.lt g hg).1)
          have HO3 : Hid (w3.ownsRow w.heap.size 49 2 v' (cat3 b1 b2 b3 2).length (bvals (cat3 b1 b2 b3 2))) := by have := hown'; rw [← bvals_append, ← List.length_append] at this; exact this
          clear hown hown' hgrow hat2
          go_roundw
          case rel => exact ⟨2, by omega, by first | rfl | go_num, HO3, hB3⟩
          case measure => simp [intOf]
        · have c2 : wr.cell? ⟨g, 2, none⟩ = some (.slice A3 n3 c3) := (BL.out.step hbr).cell 2
          have HS := Lib.hid (src_blk (R3.out.below hbr))
          have hown : wr.ownsRow w.heap.size 49 2 (.slice uA uN uC) (b1 ++ b2).length (bvals (b1 ++ b2)) := HO.out
          have hln : (b1 ++ b2).length ≤ 2000000 := by have := HN.out; simp; try omega
          have hlm : b3.length ≤ 1000000 := by have := HN.out; omega
          go_wp2_with (at_builtin; refine wpList_append_src rfl _ _ 27 rfl w.heap.size 49 i0 (.agg #[.int .i64 0, .int .i64 0]) 2 16 Try.underlying27 hi hz0 hz1 hz2 rfl (by decide) _ _ _ rfl hown _ _ _ rfl HS.out (one_blk _) (by simp only [maxLen]; omega) (by omega) hbr.size ?_; intro v' w3 hown' hgrow hat2)
          have hB3 := hbr.grown hgrow hbr.size (fun g hg => (hown.lt g hg).1)
          have HO3 : Hid (w3.ownsRow w.heap.size 49 2 v' (cat3 b1 b2 b3 3).length (bvals (cat3 b1 b2 b3 3))) := by have := hown'; rw [← bvals_append, ← List.length_append] at this; exact this
          clear hown hown' hgrow hat2
          go_roundw
          case rel => exact ⟨3, by omega, by first | rfl | go_num, HO3, hB3⟩
          case measure => simp [intOf]
        · have HF : Hid (Lv wr w.heap.size wr.heap.size (blocks (b1 ++ b2 ++ b3)) (.slice uA uN uC)) := lv_blk HO.out
          go_wp2_with fail
          go_ret
          exact ⟨_, rfl, HF.out, hbr⟩
end Go.Proofs.Ytlppngpafjfjeaa

