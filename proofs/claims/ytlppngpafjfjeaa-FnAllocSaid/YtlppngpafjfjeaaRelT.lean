/-
  (*store).release: its closure, and the whole.
-/
import Derived.Test.YtlppngpafjfjeaaRel
namespace Go.Proofs.Ytlppngpafjfjeaa
open Go.RowKit
set_option linter.unusedVariables false
set_option linter.unusedSimpArgs false
set_option linter.unnecessarySimpa false
set_option maxRecDepth 16000

set_option maxHeartbeats 1600000 in
theorem relTest_any {a z ba bz : Int} {q r : Nat} {w : World} (h0 : w.cell? ⟨q, 0, none⟩ = some (.int .i64 a)) (h1 : w.cell? ⟨r, 0, none⟩ = some (.int .i64 z)) (hq : q < w.heap.size) (hr : r < w.heap.size) (ha : 0 ≤ a ∧ a ≤ 8192 ∧ 0 ≤ z ∧ z ≤ 8192) (hb : 0 ≤ ba ∧ ba ≤ 8192 ∧ 0 ≤ bz ∧ bz ≤ 8192) :
    Calls Try.prog 72 #[.agg #[.int .i64 ba, .int .i64 bz], .pointer (some ⟨q, 0, none⟩), .pointer (some ⟨r, 0, none⟩)] w fun e w' => e = .returned (.bool (decide (ba < a + z) && decide (a < ba + bz))) ∧ Below w.heap.size w w' := by
  obtain ⟨w1, hw1⟩ : ∃ W, W = w.alloc (.cells #[.int .i64 ba, .int .i64 bz] 49) := ⟨_, rfl⟩
  have bb : Blk w1 w.heap.size 49 #[.int .i64 ba, .int .i64 bz] := by rw [hw1]; exact Blk.new w _ _
  have hB1 : Below w.heap.size w w1 := by rw [hw1]; exact (Below.refl _ _).alloc (Nat.le_refl _) _
  have c0 := bb.cell 0
  have c1 := bb.cell 1
  have d0 : w1.cell? ⟨q, 0, none⟩ = some (.int .i64 a) := (hB1.cell (p := ⟨q, 0, none⟩) hq).trans h0
  have d1 : w1.cell? ⟨r, 0, none⟩ = some (.int .i64 z) := (hB1.cell (p := ⟨r, 0, none⟩) hr).trans h1
  have HW := Lib.hid hw1
  have x1 : IntKind.i64.wrap (a + z) = a + z := IntWalk.i64_in _ (by omega)
  have x2 : IntKind.i64.wrap (ba + bz) = ba + bz := IntWalk.i64_in _ (by omega)
  clear hw1 bb
  by_cases g1 : ba < a + z
  all_goals
    by_cases g2 : a < ba + bz
    all_goals
      go_enter Try.func72, Try.ntmps72
      go_wp2_with fail
      rw [← HW.out]
      go_ret
      exact ⟨by simp [g1, g2], hB1⟩
theorem put_all {s : ByteArray} {fs : List Block} {ba bz : Int} {p : Nat} {bv fv : Value} {w : World} (bl : Blk w p 60 #[bv, fv]) (hR : Rep w w.heap.size (blocks fs) fv) (hcap : ∀ A n c, fv = .slice A n c → n ≤ c) (hM : MemF s fs)
    (hb : 0 ≤ ba ∧ ba ≤ 4096 ∧ 0 < bz ∧ bz ≤ 4096) (hno : ∀ x ∈ fs, x.at_ + x.size ≤ ba ∨ ba + bz ≤ x.at_) :
    Calls Try.prog 65 #[.pointer (some ⟨p, 0, none⟩), .agg #[.int .i64 ba, .int .i64 bz]] w fun e w' => ∃ fv', e = .returned (.tuple #[]) ∧ Blk w' p 60 #[bv, fv'] ∧ Lv w' w.heap.size w'.heap.size (blocks (giveL fs ⟨ba, bz⟩)) fv' ∧ Keep p (p + 1) w w' := by
  have hpos : ∀ x ∈ fs, 0 < x.size := fun x hx => (hM.all_ x hx).2.1
  rcases rep_cases hR with ⟨A, c, rfl, rfl⟩ | ⟨g, off, n, c, rfl, hn, hat, hg⟩
  · exact (put_nil bl).mono fun e w' h => h
  · by_cases hmid : ∃ x ∈ fs, ¬ x.at_ < ba
    · refine (put_any bl (hcap _ _ _ rfl) hg hn hat hM.fits hmid (by omega)).mono ?_
      rintro e w' ⟨k, fv', he, hfa, hbl, hL, hK⟩
      exact ⟨fv', he, hbl, by rw [← put_give_any (b := ⟨ba, bz⟩) hfa hM.ord hpos hb.2.2.1 hno]; exact hL, hK⟩
    · refine (put_end bl (hcap _ _ _ rfl) hg hn hat hM.fits (fun x hx => by
        rcases Int.lt_or_le x.at_ ba with h | h
        · exact h
        · exact absurd ⟨x, hx, by omega⟩ hmid) (by omega)).mono ?_
      rintro e w' ⟨k, fv', he, hfa, hbl, hL, hK⟩
      exact ⟨fv', he, hbl, by rw [← put_give_any (b := ⟨ba, bz⟩) hfa hM.ord hpos hb.2.2.1 hno]; exact hL, hK⟩
end Go.Proofs.Ytlppngpafjfjeaa

